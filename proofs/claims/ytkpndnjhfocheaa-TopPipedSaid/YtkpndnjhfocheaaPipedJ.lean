/- The two ends and the wheel together: one state, one heap; what each call makes of them. -/
import Derived.Test.YtkpndnjhfocheaaPipedB
import Derived.Test.YtkpndnjhfocheaaPipedI
namespace Go.Proofs.Ytkpndnjhfocheaa
open Go.SL
variable {X : Inhabited SL.Outside}

structure Bl where
  s : Nat
  r : Nat
  d : Nat
  h : Nat
  c : Nat
  w : Nat
structure M where
  a : Nat
  w : Nat
  n : Nat
  o : Nat
  rp : Option Addr
  rc : Nat
  dat : List UInt8
  has : List Bool
  held : Int
  frr : Hp
  mean : Int
  vary : Int
  mm : Bool
  wait : Int
  wk : Nat
  wp : Option Addr
  wm : Nat
  wc : Nat
  wnow : Int
  last : Int
  frw : Hp

abbrev heap (B : Bl) (D : List UInt8) (st : Int) (F : Hp) (s : M) : Hp :=
  (B.s, sbo 64 (pos st s.a) ((D.take s.w).drop s.a)) :: (B.r, rbo 32 (pos st s.n) (.slice s.rp (s.n - s.o) s.rc) B.d B.h s.held) :: (B.d, row 5 (B8 s.dat)) :: (B.h, row 4 (bs s.has)) ::
    (s.frr ++ ((B.c, cko s.mean s.vary s.mm s.wait) :: (B.w, whl (at1 s.wk s.wp s.wm s.wc) s.wnow s.last) :: (s.frw ++ F)))

structure OK (D : List UInt8) (s : M) : Prop where
  an : s.a ≤ s.n
  nw : s.n ≤ s.w
  wD : s.w ≤ D.length
  D4 : D.length ≤ 400
  wa : s.w ≤ s.a + 64
  on : s.o ≤ s.n
  no : s.n ≤ s.o + 32
  dl : s.dat.length = 32
  hl : s.has.length = 32
  ready : SlF 5 1 (.slice s.rp (s.n - s.o) s.rc) (s.n - s.o) (B8 ((D.take s.n).drop s.o)) s.frr
  got : Got D s.n s.w s.dat s.has
  ck : CkOk s.mean s.vary s.wait

section perms
variable {s r d h c w : Nat × Obj} {frr frw R F : Hp}
theorem permR : (s :: r :: d :: h :: (frr ++ R)).Perm (r :: d :: h :: (frr ++ (s :: R))) := (List.perm_middle (l₁ := r :: d :: h :: frr)).symm
theorem permC : (s :: r :: d :: h :: (frr ++ (c :: R))).Perm (c :: s :: r :: d :: h :: (frr ++ R)) := List.perm_middle (l₁ := s :: r :: d :: h :: frr)
theorem permW : (s :: r :: d :: h :: (frr ++ (c :: w :: (frw ++ F)))).Perm (w :: (frw ++ (s :: r :: d :: h :: (frr ++ (c :: F))))) := by
  have h1 : (c :: ((w :: frw) ++ F)).Perm ((w :: frw) ++ (c :: F)) := List.perm_middle.symm
  have h2 : ((s :: r :: d :: h :: frr) ++ (c :: ((w :: frw) ++ F))).Perm ((s :: r :: d :: h :: frr) ++ ((w :: frw) ++ (c :: F))) := h1.append_left _
  exact h2.trans (List.perm_append_comm_assoc _ _ _)
end perms

theorem take_cat (D : List UInt8) (a w k : Nat) (h : a ≤ w) (hw : w ≤ D.length) : (D.take w).drop a ++ (D.drop w).take k = (D.take (w + k)).drop a := by
  rw [List.take_add, List.drop_append_of_le_length (by rw [List.length_take]; omega)]

variable {B : Bl} {D : List UInt8} {st : Int} {F : Hp} {s : M}

theorem m_write (h : OK D s) : Ctr Try.prog 17 [ptr B.s 0, S (D.drop s.w)] (heap B D st F s) (fun v L' => v = int ((min D.length (s.a + 64) - s.w : Nat) : Int) ∧ L' = heap B D st F { s with w := min D.length (s.a + 64) }) := by
  have h1 := h.an; have h2 := h.nw; have h3 := h.wD; have h4 := h.D4; have h5 := h.wa
  have hl : ((D.take s.w).drop s.a).length = s.w - s.a := by rw [List.length_drop, List.length_take]; omega
  have hl2 : (D.drop s.w).length = D.length - s.w := List.length_drop
  refine (swrite_spec _ _ _ _ _ _ (by omega) (by omega) (by omega)).mono fun v L' => ?_
  rintro ⟨rfl, rfl⟩
  rw [hl, hl2]
  have e : min ((D.length - s.w : Nat) : Int) (64 - ((s.w - s.a : Nat) : Int)) = ((min D.length (s.a + 64) - s.w : Nat) : Int) := by omega
  rw [e, Int.toNat_natCast, take_cat D s.a s.w _ (by omega) h3, show s.w + (min D.length (s.a + 64) - s.w) = min D.length (s.a + 64) by omega]
  exact ⟨rfl, rfl⟩
theorem ok_write (h : OK D s) : OK D { s with w := min D.length (s.a + 64) } := by
  have h1 := h.an; have h2 := h.nw; have h3 := h.wD; have h4 := h.D4; have h5 := h.wa
  have hw : s.w ≤ min D.length (s.a + 64) := by omega
  exact ⟨h1, by dsimp only; omega, by dsimp only; omega, h4, by dsimp only; omega, h.on, h.no, h.dl, h.hl, h.ready, fun j hj => ⟨Nat.lt_of_lt_of_le (h.got j hj).1 hw, (h.got j hj).2⟩, h.ck⟩

theorem m_len (h : OK D s) : Ctr Try.prog 18 [ptr B.s 0] (heap B D st F s) (fun v L' => v = int ((s.w - s.a : Nat) : Int) ∧ L' = heap B D st F s) := by
  have h1 := h.an; have h2 := h.nw; have h3 := h.wD
  have hl : ((D.take s.w).drop s.a).length = s.w - s.a := by rw [List.length_drop, List.length_take]; omega
  refine (slen_spec _ _ _ _ _ (by omega)).mono fun v L' => ?_
  rintro ⟨rfl, rfl⟩
  exact ⟨by rw [hl], rfl⟩
theorem m_una : Ctr Try.prog 19 [ptr B.s 0] (heap B D st F s) (fun v L' => v = .int .u32 (pos st s.a) ∧ L' = heap B D st F s) := suna_spec _ _ _ _ _ (by omega)
theorem m_get (h : OK D s) (hw : s.a < s.w) : Ctr Try.prog 20 [ptr B.s 0, .int .u32 (pos st s.a), int 16] (heap B D st F s) (fun v L' => v = S ((D.take (min s.w (s.a + 16))).drop s.a) ∧ L' = heap B D st F s) := by
  have h1 := h.an; have h2 := h.nw; have h3 := h.wD; have h5 := h.wa
  have hl : ((D.take s.w).drop s.a).length = s.w - s.a := by rw [List.length_drop, List.length_take]; omega
  refine (sget_spec _ _ _ _ _ _ _ (by omega) (by omega) (by omega) (by omega)).mono fun v L' => ?_
  rintro ⟨rfl, rfl⟩
  refine ⟨?_, rfl⟩
  rw [show (pos st s.a - pos st s.a) % 4294967296 = 0 by omega, Int.toNat_zero, List.drop_zero, List.drop_take, List.drop_take, List.take_take]
  congr 2
  omega
theorem m_ack (h : OK D s) : Ctr Try.prog 25 [ptr B.s 0, .int .u32 (pos st s.n)] (heap B D st F s) (fun v L' => v = int ((s.n - s.a : Nat) : Int) ∧ L' = heap B D st F { s with a := s.n }) := by
  have h1 := h.an; have h2 := h.nw; have h3 := h.wD; have h4 := h.D4; have h5 := h.wa
  have hl : ((D.take s.w).drop s.a).length = s.w - s.a := by rw [List.length_drop, List.length_take]; omega
  have ho := pos_off st s.n s.a
  by_cases e : s.n = s.a
  · refine (sack_no _ _ _ _ _ _ (by omega) (.inl (by omega))).mono fun v L' => ?_
    rintro ⟨rfl, rfl⟩
    refine ⟨by rw [e, Nat.sub_self]; rfl, ?_⟩
    rw [e]
  · have ho' : (pos st s.n - pos st s.a) % 4294967296 = ((s.n - s.a : Nat) : Int) := by omega
    refine (sack_yes _ _ _ _ _ _ (by omega) (by omega)).mono fun v L' => ?_
    rintro ⟨rfl, rfl⟩
    rw [ho']
    refine ⟨rfl, ?_⟩
    rw [Int.toNat_natCast, List.drop_drop, show s.a + (s.n - s.a) = s.n by omega]
theorem ok_ack (h : OK D s) : OK D { s with a := s.n } := by
  have h1 := h.an; have h2 := h.nw; have h5 := h.wa
  exact ⟨by dsimp only; omega, h2, h.wD, h.D4, by dsimp only; omega, h.on, h.no, h.dl, h.hl, h.ready, h.got, h.ck⟩

/-! the receiver -/
theorem m_next : Ctr Try.prog 26 [ptr B.r 0] (heap B D st F s) (fun v L' => v = .int .u32 (pos st s.n) ∧ L' = heap B D st F s) :=
  Ctr.re permR (rnext_spec _ _ _ _ _ _ _ _ (by omega)) (fun v L1 => by rintro ⟨rfl, rfl⟩; exact ⟨_, ⟨rfl, rfl⟩, permR.symm⟩)

theorem m_put (h : OK D s) {q e : Nat} (hq : q ≤ e) (he : e ≤ s.w) :
    Ctr Try.prog 23 [ptr B.r 0, .int .u32 (pos st q), S ((D.take e).drop q)] (heap B D st F s) (fun _ L' => ∃ n rp rc dat has held frr, L' = heap B D st F { s with n := n, rp := rp, rc := rc, dat := dat, has := has, held := held, frr := frr } ∧
      OK D { s with n := n, rp := rp, rc := rc, dat := dat, has := has, held := held, frr := frr } ∧ s.n ≤ n ∧ (q ≤ s.n → s.n < e → s.n < s.o + 32 → s.n < n)) := by
  have h1 := h.an; have h2 := h.nw; have h3 := h.wD; have h4 := h.D4; have h5 := h.wa; have h6 := h.on; have h7 := h.no
  have hrl : ((D.take s.n).drop s.o).length = s.n - s.o := by rw [List.length_drop, List.length_take]; omega
  have hdl : ((D.take e).drop q).length = e - q := by rw [List.length_drop, List.length_take]; omega
  refine Ctr.re permR (rput_spec _ _ _ _ _ 32 (s.n - s.o) _ _ (pos st q) _ _ _ _ _ ((D.take e).drop q) (by omega) hrl (by omega) h.dl h.hl h.ready (by omega)) fun v L1 => ?_
  rintro ⟨m, vr, fr', held', hm, hall, hend, hS, rfl⟩
  generalize hwin : (((32 : Nat) : Int) - ((s.n - s.o : Nat) : Int)) = win at *
  have hg := putTo_got (st := st) (q := q) (e := e) (win := win) h3 h4 h2 hq he (by omega) h.dl h.got ((D.take e).drop q).length (by omega)
  have hlen := putTo_len (pos st s.n) (pos st q) win ((D.take e).drop q) s.dat s.has ((D.take e).drop q).length
  have hfirst := fun (a1 : q ≤ s.n) (a2 : s.n < e) (a3 : 1 ≤ win) => putTo_first (st := st) (dat := s.dat) (has := s.has) (D := D) (by omega) a1 a2 a3 h.hl
  generalize putTo (pos st s.n) (pos st q) win ((D.take e).drop q) s.dat s.has ((D.take e).drop q).length = pt at *
  rw [h.dl, h.hl] at hlen
  have hm32 : m ≤ 32 := by omega
  have hnm : s.n + m ≤ s.w := by
    rcases Nat.eq_zero_or_pos m with h0 | h0
    · omega
    · have := (hg (m - 1) (hall (m - 1) (by omega))).1
      omega
  have htk := got_take (by omega) h6 hg hall
  rw [htk] at hS
  obtain ⟨rp, rc, hvr⟩ := slF_form hS
  subst hvr
  have hk : s.n - s.o + m = s.n + m - s.o := by omega
  rw [hk] at hS ⊢
  have hp : (pos st s.n + (m : Int)) % 4294967296 = pos st (s.n + m) := pos_add st s.n m
  rw [hp]
  refine ⟨_, ⟨s.n + m, rp, rc, _, _, held', fr', rfl, ⟨by dsimp only; omega, by dsimp only; omega, h3, h4, h5, by dsimp only; omega, by dsimp only; omega, ?_, ?_, hS, got_shift hlen.1 hlen.2 hm32 hg, h.ck⟩, by omega, fun a1 a2 a3 => ?_⟩, permR.symm⟩
  · exact (shift_len _ _ (by omega)).trans hlen.1
  · simp only [List.length_append, List.length_drop, List.length_replicate]; omega
  · have hf := hfirst a1 a2 (by omega)
    rcases Nat.eq_zero_or_pos m with h0 | h0
    · subst h0
      rcases hend with hend | hend
      · omega
      · rw [hf] at hend; cases hend
    · omega

theorem m_read (h : OK D s) {m : Nat} (hm : 1 ≤ m) :
    Ctr Try.prog 24 [ptr B.r 0, int (m : Int)] (heap B D st F s) (fun v L' => ∃ rp rc frr, v = S (((D.take s.n).drop s.o).take m) ∧ L' = heap B D st F { s with o := min s.n (s.o + m), rp := rp, rc := rc, frr := frr } ∧ OK D { s with o := min s.n (s.o + m), rp := rp, rc := rc, frr := frr }) := by
  have h1 := h.an; have h2 := h.nw; have h3 := h.wD; have h4 := h.D4; have h5 := h.wa; have h6 := h.on; have h7 := h.no
  have hrl : ((D.take s.n).drop s.o).length = s.n - s.o := by rw [List.length_drop, List.length_take]; omega
  refine Ctr.re permR (rread_spec _ _ _ _ _ 32 (s.n - s.o) _ _ _ (m : Int) _ _ _ _ (by omega) hrl (by omega) h.ready (by omega)) fun v L1 => ?_
  rintro ⟨vr, fr', rfl, hS, rfl⟩
  rw [Int.toNat_natCast] at hS ⊢
  have hd : ((D.take s.n).drop s.o).drop m = (D.take s.n).drop (min s.n (s.o + m)) := by
    rw [List.drop_drop]
    by_cases hc : s.o + m ≤ s.n
    · rw [Nat.min_eq_right hc]
    · rw [Nat.min_eq_left (by omega), List.drop_of_length_le (by rw [List.length_take]; omega), List.drop_of_length_le (by rw [List.length_take]; omega)]
  have hl : ((D.take s.n).drop (min s.n (s.o + m))).length = s.n - min s.n (s.o + m) := by rw [List.length_drop, List.length_take]; omega
  rw [hd, hl] at hS
  obtain ⟨rp, rc, hvr⟩ := slF_form hS
  subst hvr
  exact ⟨_, ⟨rp, rc, fr', rfl, rfl, ⟨h1, h2, h3, h4, h5, by dsimp only; omega, by dsimp only; omega, h.dl, h.hl, hS, h.got, h.ck⟩⟩, permR.symm⟩

/-! the clock -/
theorem m_wait : Ctr Try.prog 22 [ptr B.c 0] (heap B D st F s) (fun v L' => v = int s.wait ∧ L' = heap B D st F s) :=
  Ctr.re permC (cwait_spec _ _ _ _ _ _) (fun v L1 => by rintro ⟨rfl, rfl⟩; exact ⟨_, ⟨rfl, rfl⟩, permC.symm⟩)
theorem m_back (h : OK D s) : Ctr Try.prog 30 [ptr B.c 0] (heap B D st F s) (fun _ L' => ∃ wait, L' = heap B D st F { s with wait := wait } ∧ OK D { s with wait := wait }) :=
  Ctr.re permC (cback_spec _ _ _ _ _ _ h.ck) (fun v L1 => by
    rintro ⟨wait', rfl, hc⟩
    exact ⟨_, ⟨wait', rfl, ⟨h.an, h.nw, h.wD, h.D4, h.wa, h.on, h.no, h.dl, h.hl, h.ready, h.got, hc⟩⟩, permC.symm⟩)
theorem m_measure (h : OK D s) (r : Int) : Ctr Try.prog 28 [ptr B.c 0, int r] (heap B D st F s) (fun _ L' => ∃ mean vary mm wait, L' = heap B D st F { s with mean := mean, vary := vary, mm := mm, wait := wait } ∧ OK D { s with mean := mean, vary := vary, mm := mm, wait := wait }) :=
  Ctr.re permC (cmeasure_spec _ _ _ _ _ _ r h.ck) (fun v L1 => by
    rintro ⟨mean', vary', m', wait', rfl, hc⟩
    exact ⟨_, ⟨mean', vary', m', wait', rfl, ⟨h.an, h.nw, h.wD, h.D4, h.wa, h.on, h.no, h.dl, h.hl, h.ready, h.got, hc⟩⟩, permC.symm⟩)

/-! the wheel -/
theorem m_wlen (hm : s.wm ≤ 1) (hk : s.wk < 16) : Ctr Try.prog 32 [ptr B.w 0] (heap B D st F s) (fun v L' => v = int (s.wm : Int) ∧ L' = heap B D st F s) :=
  Ctr.re permW (wlen_spec _ _ _ _ _ _ _ _ hm hk) (fun v L1 => by rintro ⟨rfl, rfl⟩; exact ⟨_, ⟨rfl, rfl⟩, permW.symm⟩)
theorem m_set (hk : s.wk = 0) (hp : s.wp = none) (hm : s.wm = 0) (hc : s.wc = 0) (hf : s.frw = []) {due x : Int} (hl : 0 ≤ s.last ∧ s.last ≤ 1000000) (hd : 0 ≤ due ∧ due ≤ 1000000) :
    Ctr Try.prog 21 [ptr B.w 0, int due, .int .u32 x] (heap B D st F s) (fun v L' => ∃ p c fr, v = .tuple #[int (s.last + 1), int 0] ∧ SlF 151 3 (.slice p 1 c) 1 (tm (s.last + 1) due x) fr ∧
      L' = heap B D st F { s with wk := (due % 16).toNat, wp := p, wm := 1, wc := c, last := s.last + 1, frw := fr }) := by
  obtain ⟨a, w, n, o, rp, rc, dat, has, held, frr, mean, vary, mm, wait, wk, wp, wm, wc, wnow, last, frw⟩ := s
  dsimp only at hk hp hm hc hf hl
  subst hk hp hm hc hf
  refine Ctr.re (permW (frw := [])) (wset_spec _ _ _ _ _ _ hl hd) fun v L1 => ?_
  rintro ⟨p, c, fr, rfl, hS, rfl⟩
  exact ⟨_, ⟨p, c, fr, rfl, hS, rfl⟩, permW.symm⟩
theorem m_cancel (hm : s.wm = 1) (hk : s.wk < 16) {id due x : Int} (hS : SlF 151 3 (.slice s.wp 1 s.wc) 1 (tm id due x) s.frw) :
    Ctr Try.prog 27 [ptr B.w 0, int id] (heap B D st F s) (fun v L' => v = .bool true ∧ L' = heap B D st F { s with wm := 0, frw := [] }) := by
  obtain ⟨a, w, n, o, rp, rc, dat, has, held, frr, mean, vary, mm, wait, wk, wp, wm, wc, wnow, last, frw⟩ := s
  dsimp only at hk hm hS
  subst hm
  cases hS with
  | own b1 _ _ _ sp hx hc hs =>
  refine Ctr.re (permW (frw := [(b1, row 151 (tm id due x ++ sp))])) (wcancel_spec _ _ _ _ _ _ _ _ _ _ sp hk hc (by simpa [Nat.add_comm] using hs)) fun v L1 => ?_
  rintro ⟨rfl, rfl⟩
  exact ⟨_, ⟨rfl, rfl⟩, (permW (frw := [])).symm⟩
theorem m_miss (hm : s.wm = 0) (id : Int) : Ctr Try.prog 27 [ptr B.w 0, int id] (heap B D st F s) (fun v L' => v = .bool false ∧ L' = heap B D st F s) := by
  obtain ⟨a, w, n, o, rp, rc, dat, has, held, frr, mean, vary, mm, wait, wk, wp, wm, wc, wnow, last, frw⟩ := s
  dsimp only at hm
  subst hm
  exact Ctr.re permW (wmiss_spec _ _ _ _ _ _ _ _) (fun v L1 => by rintro ⟨rfl, rfl⟩; exact ⟨_, ⟨rfl, rfl⟩, permW.symm⟩)
theorem m_adv0 (hm : s.wm = 0) (to : Int) : Ctr Try.prog 29 [ptr B.w 0, int to] (heap B D st F s) (fun v L' => v = .slice none 0 0 ∧ L' = heap B D st F { s with wk := 0, wp := none, wm := 0, wc := 0, wnow := max s.wnow to }) := by
  obtain ⟨a, w, n, o, rp, rc, dat, has, held, frr, mean, vary, mm, wait, wk, wp, wm, wc, wnow, last, frw⟩ := s
  dsimp only at hm
  subst hm
  exact Ctr.re permW (wadv0_spec _ _ _ _ _ _ _ _) (fun v L1 => by rintro ⟨rfl, rfl⟩; exact ⟨_, ⟨rfl, rfl⟩, permW.symm⟩)
theorem m_adv1 (hm : s.wm = 1) (hk : s.wk < 16) {id due x : Int} (hS : SlF 151 3 (.slice s.wp 1 s.wc) 1 (tm id due x) s.frw) (to : Int) :
    Ctr Try.prog 29 [ptr B.w 0, int to] (heap B D st F s) (fun v L' =>
      (due ≤ max s.wnow to ∧ (∃ q c', v = .slice q 1 c') ∧ L' = heap B D st F { s with wk := 0, wp := none, wm := 0, wc := 0, wnow := max s.wnow to, frw := [] }) ∨
      (¬ due ≤ max s.wnow to ∧ v = .slice none 0 0 ∧ ∃ p c fr, SlF 151 3 (.slice p 1 c) 1 (tm id due x) fr ∧ L' = heap B D st F { s with wp := p, wm := 1, wc := c, wnow := max s.wnow to, frw := fr })) := by
  obtain ⟨a, w, n, o, rp, rc, dat, has, held, frr, mean, vary, mm, wait, wk, wp, wm, wc, wnow, last, frw⟩ := s
  dsimp only at hk hm hS
  subst hm
  refine Ctr.re permW (wadv1_spec _ _ _ _ _ _ _ _ _ _ _ _ hk hS) fun v L1 => ?_
  rintro (⟨h1, h2, rfl⟩ | ⟨h1, rfl, p, c, fr, h2, rfl⟩)
  · exact ⟨_, .inl ⟨h1, h2, rfl⟩, (permW (frw := [])).symm⟩
  · exact ⟨_, .inr ⟨h1, rfl, p, c, fr, h2, rfl⟩, permW.symm⟩
end Go.Proofs.Ytkpndnjhfocheaa
