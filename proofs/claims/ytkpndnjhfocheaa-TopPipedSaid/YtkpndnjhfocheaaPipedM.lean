/- What each call makes of the state, with the new state left open. -/
import Derived.Test.YtkpndnjhfocheaaPipedK
namespace Go.Proofs.Ytkpndnjhfocheaa
open Go.SL
variable {X : Inhabited SL.Outside}

structure Wh (m m' : M) : Prop where
  wk : m'.wk = m.wk
  wp : m'.wp = m.wp
  wm : m'.wm = m.wm
  wc : m'.wc = m.wc
  wnow : m'.wnow = m.wnow
  last : m'.last = m.last
  frw : m'.frw = m.frw
theorem Wh.refl (m : M) : Wh m m := ⟨rfl, rfl, rfl, rfl, rfl, rfl, rfl⟩
theorem Wh.trans {a b c : M} (h : Wh a b) (k : Wh b c) : Wh a c := ⟨k.wk.trans h.wk, k.wp.trans h.wp, k.wm.trans h.wm, k.wc.trans h.wc, k.wnow.trans h.wnow, k.last.trans h.last, k.frw.trans h.frw⟩
structure Nu (m m' : M) : Prop where
  a : m'.a = m.a
  w : m'.w = m.w
  n : m'.n = m.n
  o : m'.o = m.o
theorem Nu.refl (m : M) : Nu m m := ⟨rfl, rfl, rfl, rfl⟩

variable {B : Bl} {D : List UInt8} {st : Int} {F : Hp} {s : M}

theorem n_write (h : OK D s) : Ctr Try.prog 17 [ptr B.s 0, S (D.drop s.w)] (heap B D st F s) (fun v L' => v = int ((min D.length (s.a + 64) - s.w : Nat) : Int) ∧
    ∃ m, L' = heap B D st F m ∧ OK D m ∧ Wh s m ∧ m.a = s.a ∧ m.n = s.n ∧ m.o = s.o ∧ m.w = min D.length (s.a + 64)) :=
  (m_write h).mono fun v L' => by rintro ⟨rfl, rfl⟩; exact ⟨rfl, _, rfl, ok_write h, ⟨rfl, rfl, rfl, rfl, rfl, rfl, rfl⟩, rfl, rfl, rfl, rfl⟩
theorem n_put (h : OK D s) {q e : Nat} (hq : q ≤ e) (he : e ≤ s.w) :
    Ctr Try.prog 23 [ptr B.r 0, .int .u32 (pos st q), S ((D.take e).drop q)] (heap B D st F s) (fun _ L' =>
      ∃ m, L' = heap B D st F m ∧ OK D m ∧ Wh s m ∧ m.a = s.a ∧ m.w = s.w ∧ m.o = s.o ∧ s.n ≤ m.n ∧ (q ≤ s.n → s.n < e → s.n < s.o + 32 → s.n < m.n)) :=
  (m_put h hq he).mono fun v L' => by
    rintro ⟨n, rp, rc, dat, has, held, frr, rfl, h1, h2, h3⟩
    exact ⟨_, rfl, h1, ⟨rfl, rfl, rfl, rfl, rfl, rfl, rfl⟩, rfl, rfl, rfl, h2, h3⟩
theorem n_read (h : OK D s) {k : Nat} (hk : 1 ≤ k) :
    Ctr Try.prog 24 [ptr B.r 0, int (k : Int)] (heap B D st F s) (fun v L' => v = S (((D.take s.n).drop s.o).take k) ∧
      ∃ m, L' = heap B D st F m ∧ OK D m ∧ Wh s m ∧ m.a = s.a ∧ m.w = s.w ∧ m.n = s.n ∧ m.o = min s.n (s.o + k)) :=
  (m_read h hk).mono fun v L' => by
    rintro ⟨rp, rc, frr, rfl, rfl, h1⟩
    exact ⟨rfl, _, rfl, h1, ⟨rfl, rfl, rfl, rfl, rfl, rfl, rfl⟩, rfl, rfl, rfl, rfl⟩
theorem n_ack (h : OK D s) : Ctr Try.prog 25 [ptr B.s 0, .int .u32 (pos st s.n)] (heap B D st F s) (fun v L' => v = int ((s.n - s.a : Nat) : Int) ∧
      ∃ m, L' = heap B D st F m ∧ OK D m ∧ Wh s m ∧ m.a = s.n ∧ m.w = s.w ∧ m.n = s.n ∧ m.o = s.o) :=
  (m_ack h).mono fun v L' => by rintro ⟨rfl, rfl⟩; exact ⟨rfl, _, rfl, ok_ack h, ⟨rfl, rfl, rfl, rfl, rfl, rfl, rfl⟩, rfl, rfl, rfl, rfl⟩
theorem n_back (h : OK D s) : Ctr Try.prog 30 [ptr B.c 0] (heap B D st F s) (fun _ L' => ∃ m, L' = heap B D st F m ∧ OK D m ∧ Wh s m ∧ Nu s m) :=
  (m_back h).mono fun v L' => by rintro ⟨wait, rfl, h1⟩; exact ⟨_, rfl, h1, ⟨rfl, rfl, rfl, rfl, rfl, rfl, rfl⟩, ⟨rfl, rfl, rfl, rfl⟩⟩
theorem n_measure (h : OK D s) (r : Int) : Ctr Try.prog 28 [ptr B.c 0, int r] (heap B D st F s) (fun _ L' => ∃ m, L' = heap B D st F m ∧ OK D m ∧ Wh s m ∧ Nu s m) :=
  (m_measure h r).mono fun v L' => by rintro ⟨_, _, _, _, rfl, h1⟩; exact ⟨_, rfl, h1, ⟨rfl, rfl, rfl, rfl, rfl, rfl, rfl⟩, ⟨rfl, rfl, rfl, rfl⟩⟩
theorem n_set (h : OK D s) (hk : s.wk = 0) (hp : s.wp = none) (hm : s.wm = 0) (hc : s.wc = 0) (hf : s.frw = []) {due x : Int} (hl : 0 ≤ s.last ∧ s.last ≤ 1000000) (hd : 0 ≤ due ∧ due ≤ 1000000) :
    Ctr Try.prog 21 [ptr B.w 0, int due, .int .u32 x] (heap B D st F s) (fun v L' => v = .tuple #[int (s.last + 1), int 0] ∧
      ∃ m, L' = heap B D st F m ∧ OK D m ∧ Nu s m ∧ m.wm = 1 ∧ m.wk < 16 ∧ m.last = s.last + 1 ∧ m.wnow = s.wnow ∧ SlF 151 3 (.slice m.wp 1 m.wc) 1 (tm (s.last + 1) due x) m.frw) :=
  (m_set hk hp hm hc hf hl hd).mono fun v L' => by
    rintro ⟨p, c, fr, rfl, hS, rfl⟩
    exact ⟨rfl, _, rfl, ⟨h.an, h.nw, h.wD, h.D4, h.wa, h.on, h.no, h.dl, h.hl, h.ready, h.got, h.ck⟩, ⟨rfl, rfl, rfl, rfl⟩, rfl, by dsimp only; omega, rfl, rfl, hS⟩
theorem n_cancel (h : OK D s) (hm : s.wm = 1) (hk : s.wk < 16) {id due x : Int} (hS : SlF 151 3 (.slice s.wp 1 s.wc) 1 (tm id due x) s.frw) :
    Ctr Try.prog 27 [ptr B.w 0, int id] (heap B D st F s) (fun v L' => v = .bool true ∧ ∃ m, L' = heap B D st F m ∧ OK D m ∧ Nu s m ∧ m.wm = 0 ∧ m.frw = [] ∧ m.last = s.last ∧ m.wnow = s.wnow) :=
  (m_cancel hm hk hS).mono fun v L' => by
    rintro ⟨rfl, rfl⟩
    exact ⟨rfl, _, rfl, ⟨h.an, h.nw, h.wD, h.D4, h.wa, h.on, h.no, h.dl, h.hl, h.ready, h.got, h.ck⟩, ⟨rfl, rfl, rfl, rfl⟩, rfl, rfl, rfl, rfl⟩
theorem n_adv0 (h : OK D s) (hm : s.wm = 0) (hf : s.frw = []) (to : Int) : Ctr Try.prog 29 [ptr B.w 0, int to] (heap B D st F s) (fun v L' => v = .slice none 0 0 ∧
    ∃ m, L' = heap B D st F m ∧ OK D m ∧ Nu s m ∧ m.wk = 0 ∧ m.wp = none ∧ m.wm = 0 ∧ m.wc = 0 ∧ m.frw = [] ∧ m.last = s.last ∧ m.wnow = max s.wnow to) :=
  (m_adv0 hm to).mono fun v L' => by
    rintro ⟨rfl, rfl⟩
    exact ⟨rfl, _, rfl, ⟨h.an, h.nw, h.wD, h.D4, h.wa, h.on, h.no, h.dl, h.hl, h.ready, h.got, h.ck⟩, ⟨rfl, rfl, rfl, rfl⟩, rfl, rfl, rfl, rfl, hf, rfl, rfl⟩
theorem n_adv1 (h : OK D s) (hm : s.wm = 1) (hk : s.wk < 16) {id due x : Int} (hS : SlF 151 3 (.slice s.wp 1 s.wc) 1 (tm id due x) s.frw) (to : Int) :
    Ctr Try.prog 29 [ptr B.w 0, int to] (heap B D st F s) (fun v L' => ∃ (q : Option Addr) (k c : Nat), v = .slice q k c ∧
      ∃ m, L' = heap B D st F m ∧ OK D m ∧ Nu s m ∧ m.last = s.last ∧ m.wnow = max s.wnow to ∧
      ((k = 1 ∧ due ≤ max s.wnow to ∧ m.wk = 0 ∧ m.wp = none ∧ m.wm = 0 ∧ m.wc = 0 ∧ m.frw = []) ∨
        (k = 0 ∧ ¬ due ≤ max s.wnow to ∧ m.wm = 1 ∧ m.wk < 16 ∧ SlF 151 3 (.slice m.wp 1 m.wc) 1 (tm id due x) m.frw))) :=
  (m_adv1 hm hk hS to).mono fun v L' => by
    rintro (⟨h1, ⟨q, c', rfl⟩, rfl⟩ | ⟨h1, rfl, p, c, fr, h2, rfl⟩)
    · exact ⟨q, 1, c', rfl, _, rfl, ⟨h.an, h.nw, h.wD, h.D4, h.wa, h.on, h.no, h.dl, h.hl, h.ready, h.got, h.ck⟩, ⟨rfl, rfl, rfl, rfl⟩, rfl, rfl, .inl ⟨rfl, h1, rfl, rfl, rfl, rfl, rfl⟩⟩
    · exact ⟨none, 0, 0, rfl, _, rfl, ⟨h.an, h.nw, h.wD, h.D4, h.wa, h.on, h.no, h.dl, h.hl, h.ready, h.got, h.ck⟩, ⟨rfl, rfl, rfl, rfl⟩, rfl, rfl, .inr ⟨rfl, h1, rfl, hk, h2⟩⟩
end Go.Proofs.Ytkpndnjhfocheaa
