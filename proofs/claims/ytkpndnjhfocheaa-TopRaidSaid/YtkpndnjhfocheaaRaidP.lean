/- What a write of some sectors of a row makes of a raid. -/
import Derived.Test.YtkpndnjhfocheaaRaidO
namespace Go.Proofs.Ytkpndnjhfocheaa
open Go.SL

abbrev RD.dp (R : RD) (D : Int → Int → UInt8) (P : Int → UInt8) : RD := { R with D := D, P := P }
theorem atM_mem {lv rw : Int} {n : Nat} (h : GOk lv n rw) {i : Int} (hi : 0 ≤ i) : atM n i ∈ dats n (atR n i) := by
  have hn := h.mem3
  have h1 := Int.emod_nonneg (i / 2) (b := (n : Int) - 1) (by omega)
  have h2 := Int.emod_lt_of_pos (i / 2) (b := (n : Int) - 1) (by omega)
  have _ := hi
  refine List.mem_map.2 ⟨(i / 2 % ((n : Int) - 1)).toNat, List.mem_range.2 (by omega), ?_⟩
  rw [Int.toNat_of_nonneg h1]; rfl
theorem at_inj {lv rw : Int} {n : Nat} (h : GOk lv n rw) {i j : Int} (hR : atR n i = atR n j) (hM : atM n i = atM n j) : i = j := by
  have hp := par_lo h (atR n j)
  unfold atM dat at hM
  rw [hR] at hM
  generalize par n (atR n j) = p at hp hM
  unfold atR at hR
  rcases h.three with rfl | rfl | rfl <;> simp at hR hM hp <;> omega

theorem rs_write {R : RD} {V : Int → Int → UInt8} (h : RS R V) {r : Int} (hr : 0 ≤ r ∧ r < R.rw) {ks ko : List Int} {gw go : Int → UInt8} (hw : WOk R.n r ks) (hM : MkR R.n R.f r ks gw (xall ((dats R.n r).map (newV ks gw fun m => V m r))) ko go) (P' : Int → UInt8)
    (hP : ∀ i : Int, 0 ≤ i → i < (R.rw : Int) * ((R.n : Int) - 1) → P' i = if atR R.n i = r ∧ atM R.n i ∈ ks then gw (atM R.n i) else R.P i) :
    RS (R.dp (fun a c => if c = r ∧ a ∈ ko then go a else R.D a c) P') (fun a c => if c = r then (if a = par R.n r then xall ((dats R.n r).map (newV ks gw fun m => V m r)) else newV ks gw (fun m => V m r) a) else V a c) := by
  have hG := h.G
  have hpn := par_not hG r
  refine ⟨⟨hG, h.one, fun c hc0 hc1 => ?_, fun a c ha0 ha1 hc0 hc1 hf => ?_⟩, fun i hi0 hi1 => ?_⟩
  · show xall ((mems R.n).map _) = 0
    by_cases e : c = r
    · subst e
      rw [xall_perm ((mems_perm hG c).map _), List.map_cons, xall_cons, if_pos rfl, if_pos rfl]
      have h1 : ((dats R.n c).map fun m => if c = c then (if m = par R.n c then xall ((dats R.n c).map (newV ks gw fun m => V m c)) else newV ks gw (fun m => V m c) m) else V m c) = (dats R.n c).map (newV ks gw fun m => V m c) := List.map_congr_left fun m hm => by
        rw [if_pos rfl, if_neg (by rintro rfl; exact hpn hm)]
      rw [h1, UInt8.xor_self]
    · rw [← h.bal c hc0 hc1]
      refine congrArg xall (List.map_congr_left fun m _ => if_neg e)
  · show (if c = r ∧ a ∈ ko then go a else R.D a c) = if c = r then _ else _
    have hd := h.dsk a c ha0 ha1 hc0 hc1 hf
    have hf' : R.f a = true := hf
    by_cases e : c = r
    · subst e
      rw [if_pos rfl]
      by_cases hk : a ∈ ko
      · rw [if_pos ⟨rfl, hk⟩]
        rcases (hM.mem a).1 hk with ⟨h1, _⟩ | ⟨h1, h2⟩
        · rw [if_neg (by rintro rfl; exact hpn (hw.sub _ h1)), hM.dat_ a h1, newV, if_pos h1]
        · subst h1
          rw [if_pos rfl]
          exact hM.par_ h2
      · rw [if_neg (fun hc => hk hc.2)]
        have h1 : a ∉ ks := fun hc => hk ((hM.mem a).2 (.inl ⟨hc, hf'⟩))
        have h2 : a ≠ par R.n c := by
          rintro rfl
          exact hk ((hM.mem _).2 (.inr ⟨rfl, hf'⟩))
        rw [if_neg h2, newV, if_neg h1]
        exact hd
    · rw [if_neg (fun hc => e hc.1), if_neg e]
      exact hd
  · show P' i = if atR R.n i = r then _ else _
    have hpl := h.pl i hi0 hi1
    rw [hP i hi0 hi1]
    by_cases e : atR R.n i = r
    · rw [if_pos e]
      have hm := atM_mem hG hi0
      rw [e] at hm
      have hq : ¬ atM R.n i = par R.n r := fun hc => hpn (hc ▸ hm)
      rw [if_neg hq]
      unfold newV
      by_cases hk : atM R.n i ∈ ks
      · rw [if_pos ⟨e, hk⟩, if_pos hk]
      · rw [if_neg (fun hc => hk hc.2), if_neg hk, hpl, e]
    · rw [if_neg (fun hc => e hc.1), if_neg e, hpl]

/-- A member goes out; or is put in again. -/
theorem rs_out {R : RD} {V : Int → Int → UInt8} (h : RS R V) (hall : ∀ m : Int, 0 ≤ m → m < R.n → R.f m = true) (o : Int) (D' : Int → Int → UInt8) (hD : ∀ a c : Int, a ≠ o → D' a c = R.D a c) :
    RS { R with D := D', f := fun m => if m = o then false else R.f m } V := by
  refine ⟨⟨h.G, fun a b ha0 ha1 hb0 hb1 hfa hfb => ?_, h.bal, fun a c ha0 ha1 hc0 hc1 hf => ?_⟩, h.pl⟩
  · have h1 : a = o := by
      by_cases e : a = o
      · exact e
      · have hx : (if a = o then false else R.f a) = false := hfa
        rw [if_neg e, hall a ha0 ha1] at hx; cases hx
    have h2 : b = o := by
      by_cases e : b = o
      · exact e
      · have hx : (if b = o then false else R.f b) = false := hfb
        rw [if_neg e, hall b hb0 hb1] at hx; cases hx
    omega
  · have hx : (if a = o then false else R.f a) = true := hf
    show D' a c = V a c
    by_cases e : a = o
    · rw [if_pos e] at hx; cases hx
    · rw [if_neg e] at hx
      rw [hD a c e]
      exact h.dsk a c ha0 ha1 hc0 hc1 hx
theorem rs_keep {R : RD} {V : Int → Int → UInt8} (h : RS R V) {o : Int} (ho : R.f o = false) (D' : Int → Int → UInt8) (hD : ∀ a c : Int, a ≠ o → D' a c = R.D a c) : RS { R with D := D' } V :=
  ⟨⟨h.G, h.one, h.bal, fun a c ha0 ha1 hc0 hc1 hf => by
    have hf' : R.f a = true := hf
    have e : a ≠ o := by rintro rfl; rw [ho] at hf'; cases hf'
    show D' a c = V a c
    rw [hD a c e]
    exact h.dsk a c ha0 ha1 hc0 hc1 hf'⟩, h.pl⟩
theorem rs_in {R : RD} {V : Int → Int → UInt8} (h : RS R V) {o : Int} (ho : 0 ≤ o ∧ o < R.n) (hf : R.f o = false) (hD : ∀ c : Int, 0 ≤ c → c < R.rw → R.D o c = V o c) :
    RS { R with f := fun m => if m = o then true else R.f m } V ∧ ∀ m : Int, 0 ≤ m → m < R.n → (if m = o then true else R.f m) = true := by
  have hall : ∀ m : Int, 0 ≤ m → m < R.n → (if m = o then true else R.f m) = true := fun m h0 h1 => by
    by_cases e : m = o
    · rw [if_pos e]
    · rw [if_neg e]
      cases hfm : R.f m with
      | true => rfl
      | false => exact absurd (h.one m o h0 h1 ho.1 ho.2 hfm hf) e
  refine ⟨⟨⟨h.G, fun a b ha0 ha1 _ _ hfa _ => ?_, h.bal, fun a c ha0 ha1 hc0 hc1 hf' => ?_⟩, h.pl⟩, hall⟩
  · have hx : (if a = o then true else R.f a) = false := hfa
    rw [hall a ha0 ha1] at hx; cases hx
  · have hx : (if a = o then true else R.f a) = true := hf'
    by_cases e : a = o
    · subst e
      exact hD c hc0 hc1
    · rw [if_neg e] at hx
      exact h.dsk a c ha0 ha1 hc0 hc1 hx
end Go.Proofs.Ytkpndnjhfocheaa
