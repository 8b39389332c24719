/- The disks over the events: what is kept, and what it comes to. -/
import Derived.Test.YtkpndnjhfocheaaSupersO
namespace Go.Proofs.Ytkpndnjhfocheaa
open Go.SL
variable {X : Inhabited SL.Outside}

/-- Members are dealt out: each disk has one of its own. -/
structure Perm (n : Nat) (me : Nat → Int) : Prop where
  lo : ∀ j, j < n → 0 ≤ me j ∧ me j < n
  inj : ∀ i j, i < n → j < n → me i = me j → i = j
def fint (me : Nat → Int) : Nat → Value := fun q => int (me q)
theorem fint_upf (me : Nat → Int) (i : Nat) (x : Int) : upf (fint me) i (int x) = fint (upf me i x) := by
  funext q
  simp only [upf, fint]
  split <;> rfl
theorem Perm.swap {n : Nat} {me : Nat → Int} (h : Perm n me) {i k : Nat} (hi : i < n) (hk : k < n) : Perm n (upf (upf me i (me k)) k (me i)) := by
  have key : ∀ q, q < n → ∃ p, p < n ∧ upf (upf me i (me k)) k (me i) q = me p ∧ ((q = k ∧ p = i) ∨ (q ≠ k ∧ q = i ∧ p = k) ∨ (q ≠ k ∧ q ≠ i ∧ p = q)) := by
    intro q hq
    unfold upf
    by_cases e : q = k
    · exact ⟨i, hi, by rw [if_pos e], .inl ⟨e, rfl⟩⟩
    · by_cases e' : q = i
      · exact ⟨k, hk, by rw [if_neg e, if_pos e'], .inr (.inl ⟨e, e', rfl⟩)⟩
      · exact ⟨q, hq, by rw [if_neg e, if_neg e'], .inr (.inr ⟨e, e', rfl⟩)⟩
  refine ⟨fun j hj => ?_, fun a b ha hb hab => ?_⟩
  · obtain ⟨p, hp, e, _⟩ := key j hj
    rw [e]; exact h.lo p hp
  · obtain ⟨p, hp, e1, c1⟩ := key a ha
    obtain ⟨q, hq, e2, c2⟩ := key b hb
    rw [e1, e2] at hab
    have := h.inj p q hp hq hab
    omega
/-- One of two is not the one that is gone. -/
theorem Perm.live {n : Nat} {me : Nat → Int} (h : Perm n me) (hn : 2 ≤ n) (g : Int) : ∃ j, j < n ∧ me j ≠ g := by
  by_cases h0 : me 0 = g
  · refine ⟨1, by omega, fun h1 => ?_⟩
    have := h.inj 0 1 (by omega) (by omega) (h0.trans h1.symm)
    omega
  · exact ⟨0, by omega, h0⟩

section
variable {lv mb rw g T : Int} {n : Nat} {me : Nat → Int}
structure IvA (X : Inhabited SL.Outside) (lv mb rw g T : Int) (n : Nat) (me : Nat → Int) (e : Int) (i : Nat) (c : Nat → List UInt8) (s : Nat → Nat) (ev : Nat → Int) (want : Int) : Prop where
  all : ∀ j, j < n → DAll X lv mb rw (stg mb g) c s me ev j
  gone : ∀ j, j < n → me j = g → ev j = 1
  done : ∀ j, j < n → me j ≠ g → j < i → ev j = e ∨ (e = T ∧ ev j = e - 1)
  todo : ∀ j, j < n → me j ≠ g → i ≤ j → ev j = e - 1
  want : (want = e ∧ ∃ j, j < i ∧ j < n ∧ me j ≠ g ∧ ev j = e) ∨ (want = e - 1 ∧ ∀ j, j < i → j < n → me j ≠ g → ev j = e - 1)
structure IvB (X : Inhabited SL.Outside) (lv mb rw g : Int) (n : Nat) (me : Nat → Int) (i : Nat) (c : Nat → List UInt8) (s : Nat → Nat) (ev : Nat → Int) (want : Int) : Prop where
  all : ∀ j, j < i → j < n → DAll X lv mb rw (stg mb g) c s me ev j ∧ ev j = 1
  rest : ∀ j, i ≤ j → j < n → c (2 * j) = noughts64 ∧ c (2 * j + 1) = noughts64
  want : (i = 0 ∧ want = 0) ∨ (0 < i ∧ want = 1)
/-- Within an event, behind i disks. -/
def Inv (X : Inhabited SL.Outside) (lv mb rw g T : Int) (n : Nat) (me : Nat → Int) (e : Int) (i : Nat) (c : Nat → List UInt8) (s : Nat → Nat) (ev : Nat → Int) (want : Int) : Prop :=
  (1 < e ∧ IvA X lv mb rw g T n me e i c s ev want) ∨ (e = 1 ∧ IvB X lv mb rw g n me i c s ev want)
structure FinD (X : Inhabited SL.Outside) (lv mb rw g T : Int) (n : Nat) (me : Nat → Int) (c : Nat → List UInt8) (s : Nat → Nat) (ev : Nat → Int) (want : Int) : Prop where
  lim : 1 ≤ want ∧ want ≤ T
  all : ∀ j, j < n → DAll X lv mb rw (stg mb g) c s me ev j
  evs : ∀ j, j < n → 1 ≤ ev j ∧ ev j ≤ want
  best : ∃ j, j < n ∧ ev j = want
  live : ∀ j, j < n → me j ≠ g → want - 1 ≤ ev j
  gone : ∀ j, j < n → me j = g → ev j = 1

variable {e want : Int} {i : Nat} {c : Nat → List UInt8} {s : Nat → Nat} {ev : Nat → Int}
/-- What a disk tells ahead of being written. -/
theorem Inv.of (h : Inv X lv mb rw g T n me e i c s ev want) (hg : GOk lv mb rw) (hn : (n : Int) = mb) (hP : Perm n me) (hT : e ≤ T ∧ T ≤ 8) (hi : i < n) :
    ∃ (ar me' lv' mb' rw' ev' ep' : Int) (f' : Nat → Int) (t : Nat), (t = 0 ∨ t = 1) ∧ (e = 1 → t = 0) ∧ (1 < e → t = s i) ∧
      ∀ F, Ctr (X := X) Try.prog 36 [S (c (2 * i)), S (c (2 * i + 1))] F (fun v L' => v = .tuple #[.agg ⟨spc ar me' lv' mb' rw' ev' ep' f' 0⟩, int t, .bool (decide (1 < e))] ∧ L' = F) := by
  rcases h with ⟨he, h⟩ | ⟨he, h⟩
  · have hD := h.all i hi
    have hme := hP.lo i hi
    have hev : 1 ≤ ev i ∧ ev i ≤ 1000 := by
      by_cases hgi : me i = g
      · have := h.gone i hi hgi; omega
      · have := h.todo i hi hgi (Nat.le_refl _); omega
    refine ⟨7, me i, lv, mb, rw, ev i, ev i, stg mb g (ev i), s i, hD.slot, by omega, fun _ => rfl, fun F => ?_⟩
    refine (of_dok (sok_of hg (by omega) hev) hD F).mono ?_
    rintro v L' ⟨rfl, rfl⟩
    exact ⟨by rw [decide_eq_true he], rfl⟩
  · have hr := h.rest i (Nat.le_refl _) hi
    refine ⟨0, 0, 0, 0, 0, 0, 0, fun _ => 0, 0, .inl rfl, fun _ => rfl, by omega, fun F => ?_⟩
    rw [hr.1, hr.2]
    refine (of_zero F).mono ?_
    rintro v L' ⟨rfl, rfl⟩
    exact ⟨by rw [decide_eq_false (by omega)]; rfl, rfl⟩
theorem Inv.skip (h : Inv X lv mb rw g T n me e i c s ev want) (he : 1 < e) (hs : me i = g ∨ e = T) : Inv X lv mb rw g T n me e (i + 1) c s ev want := by
  rcases h with ⟨_, h⟩ | ⟨he', _⟩
  · refine .inl ⟨he, h.all, h.gone, fun j hj hg hji => ?_, fun j hj hg hji => h.todo j hj hg (by omega), ?_⟩
    · rcases Nat.lt_or_ge j i with h1 | h1
      · exact h.done j hj hg h1
      · have hij : j = i := by omega
        subst hij
        rcases hs with hs | hs
        · exact absurd hs hg
        · exact .inr ⟨hs, h.todo j hj hg (Nat.le_refl _)⟩
    · rcases h.want with ⟨h1, j, h2, h3⟩ | ⟨h1, h2⟩
      · exact .inl ⟨h1, j, by omega, h3⟩
      · refine .inr ⟨h1, fun j hji hj hg => ?_⟩
        rcases Nat.lt_or_ge j i with h3 | h3
        · exact h2 j h3 hj hg
        · exact h.todo j hj hg h3
  · omega
theorem Inv.tear (h : Inv X lv mb rw g T n me e i c s ev want) (he : 1 < e) (hi : i < n) {x : List UInt8} (hx : ∀ e, Low X x e) : Inv X lv mb rw g T n me e i (upf c (2 * i + s i) x) s ev want := by
  rcases h with ⟨_, h⟩ | ⟨he', _⟩
  · refine .inl ⟨he, fun j hj => ?_, h.gone, h.done, h.todo, h.want⟩
    by_cases hij : i = j
    · subst hij; exact (h.all i hj).torn hx
    · exact (h.all j hj).tornO hij (h.all i hi).slot x
  · omega
theorem Inv.put (h : Inv X lv mb rw g T n me e i c s ev want) (hg : GOk lv mb rw) (hn : (n : Int) = mb) (hP : Perm n me) (he : 1 ≤ e ∧ e ≤ T ∧ T ≤ 8) (hi : i < n) (hl : e = 1 ∨ me i ≠ g) {t : Nat} (h1 : e = 1 → t = 0) (h2 : 1 < e → t = s i) :
    ∃ s', Inv X lv mb rw g T n me e (i + 1) (upf c (2 * i + t) (tx lv mb rw (stg mb g) (me i) e)) s' (upf ev i e) e := by
  have hme := hP.lo i hi
  rcases h with ⟨he', h⟩ | ⟨he', h⟩
  · have hl' : me i ≠ g := by
      rcases hl with hl | hl
      · omega
      · exact hl
    have hev := h.todo i hi hl' (Nat.le_refl _)
    have ht := h2 he'
    subst ht
    refine ⟨upf s i (1 - s i), .inl ⟨he', fun j hj => ?_, fun j hj hgj => ?_, fun j hj hgj hji => ?_, fun j hj hgj hji => ?_, .inl ⟨rfl, i, by omega, hi, hl', upf_self _ _ _⟩⟩⟩
    · by_cases hij : i = j
      · subst hij
        exact (h.all i hj).put (sok_of hg (by omega) (by omega)) (by omega)
      · exact (h.all j hj).other hij (h.all i hi).slot _ _ _
    · rw [upf_ne _ _ (fun k => hl' (by rw [← k]; exact hgj))]; exact h.gone j hj hgj
    · by_cases hij : j = i
      · subst hij; exact .inl (upf_self _ _ _)
      · rw [upf_ne _ _ hij]; exact h.done j hj hgj (by omega)
    · rw [upf_ne _ _ (by omega)]; exact h.todo j hj hgj (by omega)
  · have ht := h1 he'
    subst ht
    subst he'
    refine ⟨upf s i 1, .inr ⟨rfl, fun j hji hj => ?_, fun j hij hj => ?_, .inr ⟨by omega, rfl⟩⟩⟩
    · by_cases hij : j = i
      · subst hij
        exact ⟨DAll.first (h.rest j (Nat.le_refl _) hj).2 1, upf_self _ _ _⟩
      · obtain ⟨hD, hv⟩ := h.all j (by omega) hj
        exact ⟨hD.other (Ne.symm hij) (.inl rfl) _ _ _, by rw [upf_ne _ _ hij]; exact hv⟩
    · rw [upf_ne _ _ (by omega), upf_ne _ _ (by omega)]
      exact h.rest j (by omega) hj
theorem Inv.next (h : Inv X lv mb rw g T n me e n c s ev want) (hP : Perm n me) (hn2 : 2 ≤ n) (he : 1 ≤ e ∧ e < T) : Inv X lv mb rw g T n me (e + 1) 0 c s ev want := by
  obtain ⟨q, hq, hqg⟩ := hP.live hn2 g
  rcases h with ⟨he', h⟩ | ⟨he', h⟩
  · have hd : ∀ j, j < n → me j ≠ g → ev j = e := fun j hj hg => by
      rcases h.done j hj hg hj with h1 | ⟨h1, _⟩
      · exact h1
      · omega
    have hw : want = e := by
      rcases h.want with ⟨h1, _⟩ | ⟨_, h2⟩
      · exact h1
      · have h3 := h2 q hq hq hqg
        have h4 := hd q hq hqg
        omega
    exact .inl ⟨by omega, h.all, h.gone, fun j _ _ h0 => by omega, fun j hj hg _ => by have := hd j hj hg; omega, .inr ⟨by omega, fun j h0 => by omega⟩⟩
  · have hw : want = 1 := by
      rcases h.want with ⟨h1, _⟩ | ⟨_, h1⟩
      · omega
      · exact h1
    refine .inl ⟨by omega, fun j hj => (h.all j hj hj).1, fun j hj _ => (h.all j hj hj).2, fun j _ _ h0 => by omega, fun j hj _ _ => by have := (h.all j hj hj).2; omega, .inr ⟨by omega, fun j h0 => by omega⟩⟩
theorem Inv.fin (h : Inv X lv mb rw g T n me e n c s ev want) (hP : Perm n me) (hn2 : 2 ≤ n) (he : e = T ∧ 1 ≤ T) : FinD X lv mb rw g T n me c s ev want := by
  obtain ⟨q, hq, hqg⟩ := hP.live hn2 g
  obtain ⟨rfl, hT⟩ := he
  rcases h with ⟨he', h⟩ | ⟨he', h⟩
  · have hd : ∀ j, j < n → me j ≠ g → ev j = e ∨ ev j = e - 1 := fun j hj hg => by
      rcases h.done j hj hg hj with h1 | ⟨_, h1⟩
      · exact .inl h1
      · exact .inr h1
    rcases h.want with ⟨h1, j0, h2, h3, h4, h5⟩ | ⟨h1, h2⟩
    · refine ⟨by omega, h.all, fun j hj => ?_, ⟨j0, h3, by omega⟩, fun j hj hg => by have := hd j hj hg; omega, h.gone⟩
      by_cases hg : me j = g
      · have := h.gone j hj hg; omega
      · have := hd j hj hg; omega
    · refine ⟨by omega, h.all, fun j hj => ?_, ⟨q, hq, by have := h2 q hq hq hqg; omega⟩, fun j hj hg => by have := h2 j hj hj hg; omega, h.gone⟩
      by_cases hg : me j = g
      · have := h.gone j hj hg; omega
      · have := h2 j hj hj hg; omega
  · have hw : want = 1 := by
      rcases h.want with ⟨h1, _⟩ | ⟨_, h1⟩
      · omega
      · exact h1
    have h1 : ∀ j, j < n → ev j = 1 := fun j hj => (h.all j hj hj).2
    exact ⟨by omega, fun j hj => (h.all j hj hj).1, fun j hj => by have := h1 j hj; omega, ⟨q, hq, by have := h1 q hq; omega⟩, fun j hj _ => by have := h1 j hj; omega, fun j hj _ => h1 j hj⟩
theorem Inv.begin (hc : ∀ q, c q = noughts64) : Inv X lv mb rw g T n me 1 0 c s ev 0 :=
  .inr ⟨rfl, fun j h0 => by omega, fun j _ _ => ⟨hc _, hc _⟩, .inl ⟨rfl, rfl⟩⟩

/-- The disk that counts. -/
theorem FinD.first (h : FinD X lv mb rw g T n me c s ev want) : ∃ d, d < n ∧ ev d = want ∧ ∀ j, j < d → ev j ≠ want := by
  obtain ⟨x, ⟨hx1, hx2⟩, hx3⟩ := least (p := fun j => j < n ∧ ev j = want) h.best
  refine ⟨x, hx1, hx2, fun j hj hc => ?_⟩
  have := hx3 j ⟨by omega, hc⟩
  omega
/-- Who is in. -/
theorem FinD.iv (h : FinD X lv mb rw g T n me c s ev want) (hn : (n : Int) = mb) (hP : Perm n me) {j : Nat} (hj : j < n) :
    dkf me n (me j).toNat = (j : Int) ∧ stg mb g want (me j).toNat = (if 1 < want ∧ me j = g then 2 else 1) ∧ ivf (stg mb g) me ev want n (me j).toNat = !decide (1 < want ∧ me j = g) := by
  have hme := hP.lo j hj
  have hcast : (((me j).toNat : Nat) : Int) = me j := by omega
  have hd : dkf me n (me j).toNat = (j : Int) := dkf_some (by omega) hj (fun e he h' => hP.inj e j he hj (by omega))
  have hs : stg mb g want (me j).toNat = (if 1 < want ∧ me j = g then 2 else 1) := by
    unfold stg
    rw [hcast, if_pos (by omega)]
  refine ⟨hd, hs, ?_⟩
  unfold ivf
  rw [hd, hs, Int.toNat_natCast]
  have hj0 : (0 : Int) ≤ (j : Int) := by omega
  by_cases hg : me j = g
  · have := h.gone j hj hg
    by_cases hw : 1 < want
    · simp [hg, hw]
    · have := h.lim
      simp [hw]
      omega
  · have := h.live j hj hg
    simp [hg]
    omega
end
end Go.Proofs.Ytkpndnjhfocheaa
