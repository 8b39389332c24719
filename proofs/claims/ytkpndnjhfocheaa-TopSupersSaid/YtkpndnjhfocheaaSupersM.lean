/- super.Make, super.Works: what they come to. -/
import Derived.Test.YtkpndnjhfocheaaSupersL
namespace Go.Proofs.Ytkpndnjhfocheaa
open Go.SL
variable {X : Inhabited SL.Outside}

/-- An array's cells. -/
abbrev mdc (su : List Value) (dk : Nat → Int) (iv : Nat → Bool) : List Value := su ++ [int (dk 0), int (dk 1), int (dk 2), int (dk 3), .bool (iv 0), .bool (iv 1), .bool (iv 2), .bool (iv 3)]
theorem mdc_dk (su : List Value) (hl : su.length = 12) (dk : Nat → Int) (iv : Nat → Bool) (m : Nat) (h : m < 4) : nth (mdc su dk iv) (12 + m) = some (int (dk m)) := by
  rw [nth_eq, List.getElem?_append_right (by omega)]
  have : 12 + m - su.length = m := by omega
  rw [this]
  rcases m with _|_|_|_|m <;> first | rfl | omega
theorem mdc_iv (su : List Value) (hl : su.length = 12) (dk : Nat → Int) (iv : Nat → Bool) (m : Nat) (h : m < 4) : nth (mdc su dk iv) (16 + m) = some (.bool (iv m)) := by
  rw [nth_eq, List.getElem?_append_right (by omega)]
  have : 16 + m - su.length = 4 + m := by omega
  rw [this]
  rcases m with _|_|_|_|m <;> first | rfl | omega
theorem mdc_len (su : List Value) (hl : su.length = 12) (dk : Nat → Int) (iv : Nat → Bool) : (mdc su dk iv).length = 20 := by simp [hl]
def upd {α : Type} (f : Nat → α) (m : Nat) (x : α) : Nat → α := fun q => if q = m then x else f q
theorem mdc_setdk (su : List Value) (hl : su.length = 12) (dk : Nat → Int) (iv : Nat → Bool) (m : Nat) (h : m < 4) (x : Int) : (mdc su dk iv).set (12 + m) (int x) = mdc su (upd dk m x) iv := by
  rw [mdc, List.set_append_right _ _ (by omega)]
  have : 12 + m - su.length = m := by omega
  rw [this]
  rcases m with _|_|_|_|m <;> first | rfl | omega
theorem mdc_setiv (su : List Value) (hl : su.length = 12) (dk : Nat → Int) (iv : Nat → Bool) (m : Nat) (h : m < 4) (x : Bool) : (mdc su dk iv).set (16 + m) (.bool x) = mdc su dk (upd iv m x) := by
  rw [mdc, List.set_append_right _ _ (by omega)]
  have : 16 + m - su.length = 4 + m := by omega
  rw [this]
  rcases m with _|_|_|_|m <;> first | rfl | omega

theorem y_lookOkE {P : Program} {n : Nat} {E : Env} {L : Hp} {ty T : TypeId} {x y : Operand} {K : Type} [DecidableEq K] {κ : K → Value} {ok : K → Prop} {kt e : TypeId} (i : Nat) {b : Nat} {l : List (K × Value)} {k : K} {u v : Value} (Ky : KeyT P kt κ ok) (ht : P.underlying T = some (.map kt e)) (hz : zeroB P e u) (hk : ok k) (hl : MOk ok l) (hx : ev E x = some (.map (some b))) (hy : ev E y = some (κ k)) (hL : nth L i = some (b, mrow κ l)) (hv : mget k l = some v) :
    Rd P n E L (.lookup T x y true) ty (.tuple #[v, .bool true]) := by
  have h := y_lookOk (X := X) (n := n) (ty := ty) i Ky ht hz hk hl hx hy hL
  rw [hv] at h
  exact h
theorem ne72 (w : World) (a b c : Int) : (Op.equal 72 (.agg #[int a, int b, int c]) (.agg #[int a, int b, int c])).run Try.prog w = .ok true w := by
  have h := eq72 w 9998 a b c a b c
  rw [decide_eq_true ⟨rfl, rfl, rfl⟩] at h
  exact h
/-- Each member's disk among the first j. -/
def dkf (me : Nat → Int) : Nat → Nat → Int
  | 0, _ => -1
  | j + 1, m => if me j = (m : Int) then (j : Int) else dkf me j m
theorem dkf_none {me : Nat → Int} {m : Nat} : ∀ {j : Nat}, (∀ d, d < j → me d ≠ m) → dkf me j m = -1
  | 0, _ => rfl
  | j + 1, h => by rw [dkf, if_neg (h j (by omega)), dkf_none fun d hd => h d (by omega)]
theorem dkf_some {me : Nat → Int} {m d : Nat} (hm : me d = m) : ∀ {j : Nat}, d < j → (∀ e, e < j → me e = m → e = d) → dkf me j m = d
  | 0, h, _ => by omega
  | j + 1, h, hu => by
    rw [dkf]
    by_cases e : me j = (m : Int)
    · rw [if_pos e, hu j (by omega) e]
    · rw [if_neg e, dkf_some hm (by
        rcases Nat.lt_or_ge d j with h' | h'
        · exact h'
        · have : d = j := by omega
          subst this; exact absurd hm e) fun e' he' => hu e' (by omega)]
theorem dkf_or (me : Nat → Int) (m : Nat) : ∀ j : Nat, dkf me j m = -1 ∨ ∃ d, d < j ∧ dkf me j m = d ∧ me d = m
  | 0 => .inl rfl
  | j + 1 => by
    rw [dkf]
    by_cases e : me j = (m : Int)
    · rw [if_pos e]; exact .inr ⟨j, by omega, rfl, e⟩
    · rw [if_neg e]
      rcases dkf_or me m j with h | ⟨d, hd, h1, h2⟩
      · exact .inl h
      · exact .inr ⟨d, by omega, h1, h2⟩
theorem dkf_succ {me : Nat → Int} {j k : Nat} (h : me j = k) : dkf me (j + 1) = upd (dkf me j) k (j : Int) := by
  funext m
  simp only [dkf, upd, h]
  by_cases e : m = k
  · subst e; simp
  · rw [if_neg (by omega), if_neg e]
theorem mput_new {K : Type} [DecidableEq K] {k : K} {v : Value} {l : List (K × Value)} (h : ∀ p ∈ l, p.1 ≠ k) : mput k v l = l ++ [(k, v)] := (posn_none (posn_iff (i := 0) h)).2.2 v
theorem ownl_put (i : Nat) (g : Nat → Value) : mput (i : Int) (g i) (ownl i g) = ownl (i + 1) g := by
  rw [mput_new]
  · simp [ownl, List.range_succ]
  · intro p hp
    simp only [ownl, List.mem_map, List.mem_range] at hp
    obtain ⟨q, hq, rfl⟩ := hp
    intro e
    have : (q : Int) = i := e
    omega

section
variable {lv mb rw : Int} {st : Int → Nat → Int} {me ev : Nat → Int}
/-- Is a member in? -/
def ivf (st : Int → Nat → Int) (me ev : Nat → Int) (gr : Int) (n m : Nat) : Bool := decide (0 ≤ dkf me n m) && (decide (st gr m = 1) && decide (ev (dkf me n m).toNat ≥ gr - 1))
/-- The same for the first k, the others out. -/
def ivk (st : Int → Nat → Int) (me ev : Nat → Int) (gr : Int) (n k m : Nat) : Bool := if m < k then ivf st me ev gr n m else false

theorem make_spec (F : Hp) (bl n cap d : Nat) (cs : List Value) (z o : Nat → List UInt8) (gr : Int) (hn : n ≤ 4) (hmb : 0 ≤ mb ∧ mb ≤ 4) (hev : ∀ i, i < n → 1 ≤ ev i ∧ ev i ≤ gr) (hgr : gr ≤ 1000) (hd : d < n) (hdg : ev d = gr) (hlt : ∀ i, i < d → ev i ≠ gr)
    (hme : ∀ i, i < n → 0 ≤ me i ∧ me i < n) (hinj : ∀ i j, i < n → j < n → me i = me j → i = j) (hst : ∀ m, m < n → st gr m = 1 ∨ st gr m = 2)
    (hcs : ∀ i, i < n → (cs.drop (0 + i * 2)).take 2 = [S (z i), S (o i)])
    (hof : ∀ i, i < n → ∃ slot : Int, ∀ F, Ctr Try.prog 36 [S (z i), S (o i)] F (fun v L' => v = .tuple #[.agg ⟨sbd lv mb rw st me ev i⟩, int slot, .bool true] ∧ L' = F)) :
    Ctr Try.prog 37 [sl bl 0 n cap, int 7] ((bl, row 77 cs) :: F) (fun v L' => v = .tuple #[.agg ⟨mdc (sbd lv mb rw st me ev d) (dkf me n) (ivf st me ev gr n)⟩, int 0] ∧ L' = (bl, row 77 cs) :: F) := by
  refine spec_body Try.func37 Try.ntmps37 rfl rfl ?_
  refine wc_seq ?_
  refine wc_region ?_
  refine wl_do (d_alloc (z := .agg ⟨mdc sp0 (fun _ => 0) (fun _ => false)⟩) (zeroB_of (by kernel_rfl))) rfl ?_
  rintro _ _ ⟨b4, rfl, rfl⟩
  refine wl_pu (y_assign rfl) rfl ?_
  refine wl_nil ?_
  refine at_then ?_
  refine wc_seq ?_
  refine wc_region ?_
  refine wl_pu (y_build [int (-1), int (-1), int (-1), int (-1)] rfl (by kernel_rfl)) rfl ?_
  refine wl_pu (y_build [int 0, int 0, int 0, int 0, int 0, int 0, int 0, int 0, int 0, int 0, int 0, int 0, int (-1), int (-1), int (-1), int (-1), .bool false, .bool false, .bool false, .bool false] rfl (by kernel_rfl)) rfl ?_
  refine wl_do (d_alloc (z := .agg ⟨mdc sp0 (fun _ => 0) (fun _ => false)⟩) (zeroB_of (by kernel_rfl))) rfl ?_
  rintro _ _ ⟨b6, rfl, rfl⟩
  refine wl_do0 (d_storeAgg (k := 20) (vs := mdc sp0 (fun _ => -1) (fun _ => false)) 0 rfl rfl rfl (by decide) rfl rfl (by kernel_rfl)) (fun _ _ hL => ?_)
  subst hL
  refine wl_nil ?_
  refine at_then ?_
  refine wc_seq ?_
  refine wc_region ?_
  refine wl_do d_makeMap rfl ?_
  rintro _ _ ⟨mb7, rfl, rfl⟩
  refine wl_pu (y_assign rfl) rfl ?_
  refine wl_nil ?_
  refine at_then ?_
  refine wc_seq ?_
  refine wc_seq ?_
  refine wc_region ?_
  refine wl_pu (y_move rfl) rfl ?_
  refine wl_pu (y_lenL Try.underlying76 rfl) rfl ?_
  refine wl_pu (y_move rfl) rfl ?_
  refine wl_nil ?_
  refine at_then ?_
  refine wc_block ?_
  -- at: loop
  refine wc_loop (σ := Nat) (fun i => i ≤ n) (fun i => n - i) (fun i => [(0, sl bl 0 n cap), (1, int 7), (4, ptr b4 0), (6, ptr b6 0), (7, .map (some mb7)), (23, sl bl 0 n cap), (24, int n), (25, int (i : Int))])
    (fun i => (mb7, mrow int (ownl i fun q => .agg ⟨sbd lv mb rw st me ev q⟩)) :: (b6, row 86 (mdc sp0 (fun _ => -1) (fun _ => false))) :: (b4, row 86 (mdc sp0 (fun _ => 0) (fun _ => false))) :: (bl, row 77 cs) :: F) 0 (by omega) ⟨rfl, rfl, rfl, rfl, rfl, rfl, rfl, rfl, trivial⟩ rfl ?_
  intro i hi
  show WC _ _ _ _ [(0, sl bl 0 n cap), (1, int 7), (4, ptr b4 0), (6, ptr b6 0), (7, .map (some mb7)), (23, sl bl 0 n cap), (24, int n), (25, int (i : Int))] _
  refine wc_seq ?_
  refine wc_region ?_
  refine wl_pu (y_lss rfl rfl) rfl ?_
  refine wl_nil ?_
  refine at_then ?_
  refine wc_seq ?_
  -- at: cond
  refine wc_condD rfl (fun hin => ?_) (fun hin => ?_)
  · skip
    have hin' : i < n := by omega
    obtain ⟨slot, hsl⟩ := hof i hin'
    refine wc_skip ?_
    refine at_then ?_
    refine wc_seq ?_
    refine wc_block ?_
    refine wc_seq ?_
    refine wc_region ?_
    refine wl_pu (y_move rfl) rfl ?_
    refine wl_pu (y_ix 2 Try.underlying76 (by kernel_rfl) rfl rfl (by omega)) rfl ?_
    refine wl_rd (y_loadAgg (k := 2) (vs := [S (z i), S (o i)]) 3 rfl rfl (by rw [Int.toNat_natCast]; exact hcs i hin') rfl (by kernel_rfl) (by kernel_rfl)) rfl ?_
    refine wl_do (d_alloc (z := .agg #[S [], S []]) (zeroB_of (by kernel_rfl))) rfl ?_
    rintro _ _ ⟨b9, rfl, rfl⟩
    refine wl_pu (y_assign rfl) rfl ?_
    refine wl_do0 (d_storeAgg (k := 2) 0 rfl rfl rfl (by decide) rfl rfl (by kernel_rfl)) (fun _ _ hL => ?_)
    subst hL
    refine wl_heap ((b9, row 77 [S (z i), S (o i)]) :: (mb7, mrow int (ownl i fun q => .agg ⟨sbd lv mb rw st me ev q⟩)) :: (b6, row 86 (mdc sp0 (fun _ => -1) (fun _ => false))) :: (b4, row 86 (mdc sp0 (fun _ => 0) (fun _ => false))) :: (bl, row 77 cs) :: F) rfl ?_
    refine wl_nil ?_
    refine at_then ?_
    refine wc_seq ?_
    refine wc_region ?_
    refine wl_pu (y_ixA 1 Try.underlying77 (by kernel_rfl) rfl rfl (by omega)) rfl ?_
    first | refine wl_rd (y_load 0 rfl rfl rfl (by kernel_rfl)) rfl ?_ | refine wl_rd (y_load 1 rfl rfl rfl (by kernel_rfl)) rfl ?_ | refine wl_rd (y_load 2 rfl rfl rfl (by kernel_rfl)) rfl ?_ | refine wl_rd (y_load 3 rfl rfl rfl (by kernel_rfl)) rfl ?_ | refine wl_rd (y_load 4 rfl rfl rfl (by kernel_rfl)) rfl ?_ | refine wl_rd (y_load 5 rfl rfl rfl (by kernel_rfl)) rfl ?_
    refine wl_pu (y_ixA 1 Try.underlying77 (by kernel_rfl) rfl rfl (by omega)) rfl ?_
    first | refine wl_rd (y_load 0 rfl rfl rfl (by kernel_rfl)) rfl ?_ | refine wl_rd (y_load 1 rfl rfl rfl (by kernel_rfl)) rfl ?_ | refine wl_rd (y_load 2 rfl rfl rfl (by kernel_rfl)) rfl ?_ | refine wl_rd (y_load 3 rfl rfl rfl (by kernel_rfl)) rfl ?_ | refine wl_rd (y_load 4 rfl rfl rfl (by kernel_rfl)) rfl ?_ | refine wl_rd (y_load 5 rfl rfl rfl (by kernel_rfl)) rfl ?_
    -- at: op (call {callee:(value (func 36)), args:[t32, t34], argTypes:[9, 9]})
    refine wl_do (d_call (by kernel_rfl) rfl (hsl _)) rfl ?_
    rintro _ _ ⟨rfl, rfl⟩
    refine wl_pu (y_move rfl) rfl ?_
    refine wl_pu (y_extract rfl rfl) rfl ?_
    refine wl_pu (y_extract rfl rfl) rfl ?_
    refine wl_pu (y_extract rfl rfl) rfl ?_
    -- at: op (alloc 80)
    refine wl_do (d_alloc (z := .agg #[int 0, int 0, int 0, int 0, int 0, int 0, int 0, int 0, int 0, int 0, int 0, int 0]) (zeroB_of (by kernel_rfl))) rfl ?_
    rintro _ _ ⟨b10, rfl, rfl⟩
    refine wl_do0 (d_storeAgg (k := 12) 0 rfl rfl rfl (by decide) rfl rfl (by kernel_rfl)) (fun _ _ hL => ?_)
    subst hL
    refine wl_heap ((b10, row 80 (sbd lv mb rw st me ev i)) :: (b9, row 77 [S (z i), S (o i)]) :: (mb7, mrow int (ownl i fun q => .agg ⟨sbd lv mb rw st me ev q⟩)) :: (b6, row 86 (mdc sp0 (fun _ => -1) (fun _ => false))) :: (b4, row 86 (mdc sp0 (fun _ => 0) (fun _ => false))) :: (bl, row 77 cs) :: F) rfl ?_
    refine wl_pu (y_assign rfl) rfl ?_
    refine wl_pu (y_assign rfl) rfl ?_
    refine wl_nil ?_
    refine at_then ?_
    refine wc_seq ?_
    refine wc_seq ?_
    refine wc_region ?_
    refine wl_pu (y_move rfl) rfl ?_
    first | refine wl_pu (y_notT rfl) rfl ?_ | refine wl_pu (y_notF rfl) rfl ?_ | refine wl_pu (y_not rfl) rfl ?_ | refine wl_pu (y_notB rfl) rfl ?_
    refine wl_pu (y_move rfl) rfl ?_
    -- at: guard 2
    refine wl_gon rfl rfl ?_
    first | refine wl_pu (y_fieldAddr0 0 Try.underlying80 rfl rfl (by kernel_rfl) rfl) rfl ?_ | refine wl_pu (y_fieldAddr 0 Try.underlying80 rfl rfl (by kernel_rfl) rfl) rfl ?_
    refine wl_gon rfl rfl ?_
    first | refine wl_rd (y_load 0 rfl rfl rfl (by kernel_rfl)) rfl ?_ | refine wl_rd (y_load 1 rfl rfl rfl (by kernel_rfl)) rfl ?_ | refine wl_rd (y_load 2 rfl rfl rfl (by kernel_rfl)) rfl ?_ | refine wl_rd (y_load 3 rfl rfl rfl (by kernel_rfl)) rfl ?_ | refine wl_rd (y_load 4 rfl rfl rfl (by kernel_rfl)) rfl ?_ | refine wl_rd (y_load 5 rfl rfl rfl (by kernel_rfl)) rfl ?_
    refine wl_gon rfl rfl ?_
    refine wl_pu (y_move rfl) rfl ?_
    refine wl_gon rfl rfl ?_
    refine wl_pu (y_neq rfl rfl) rfl ?_
    first | refine wl_pu (y_pickT rfl rfl) rfl ?_ | refine wl_pu (y_pickF rfl rfl) rfl ?_
    refine wl_nil ?_
    refine at_then ?_
    -- at: cond
    refine wc_condD rfl (fun hc => absurd hc ((by omega))) (fun _ => ?_)
    refine wc_skip ?_
    refine at_then ?_
    refine wc_region ?_
    refine wl_pu (y_move rfl) rfl ?_
    refine wl_pu (y_move rfl) rfl ?_
    refine wl_rd (y_loadAgg (k := 12) (vs := sbd lv mb rw st me ev i) 0 rfl rfl rfl rfl (by kernel_rfl) (by kernel_rfl)) rfl ?_
    refine wl_do0 (d_mapUpdate (k := (i : Int)) 2 key3 Try.underlying177 ⟨by omega, by omega⟩ (ownl_ok _ (by omega)) rfl rfl rfl rfl) (fun _ _ hL => ?_)
    subst hL
    refine wl_nil ?_
    refine at_block_normal ?_
    refine at_then ?_
    refine wc_region ?_
    refine wl_pu (y_add rfl rfl (by omega)) rfl ?_
    refine wl_pu (y_move rfl) rfl ?_
    refine wl_nil ?_
    -- at: round
    refine at_drop (at_drop ?_)
    exact at_again (i + 1) (by omega) (by omega) ⟨rfl, rfl, rfl, rfl, rfl, rfl, rfl, rfl, trivial⟩ (by have h := ownl_put i (fun q => Value.agg ⟨sbd lv mb rw st me ev q⟩); simp only [setAt]; rw [← h])
  · skip
    have hie : i = n := by omega
    subst hie
    have hown : (ownl i fun q => Value.agg ⟨sbd lv mb rw st me ev q⟩).length = i := ownl_len _ _
    refine wc_exit ?_
    refine at_then_exit ?_
    refine at_then_exit ?_
    refine at_block_same ?_
    refine at_then ?_
    refine wc_seq ?_
    refine wc_seq ?_
    refine wc_region ?_
    refine wl_pu (y_move rfl) rfl ?_
    -- at: op (call {callee:(builtin len), args:[t51], argTypes:[177]})
    refine wl_rd (y_lenM 0 Try.underlying177 rfl rfl) rfl ?_
    refine wl_pu (y_eql rfl rfl) rfl ?_
    refine wl_nil ?_
    refine at_then ?_
    -- at: cond
    refine wc_condD rfl (fun hc => absurd hc ((by rw [hown]; omega))) (fun _ => ?_)
    refine wc_skip ?_
    refine at_then ?_
    refine wc_seq ?_
    refine wc_region ?_
    refine wl_pu (y_move rfl) rfl ?_
    -- at: op (call {callee:(value (func 85)), args:[t55], argTypes:[177]})
    refine wl_do (d_call (by kernel_rfl) rfl (counts_spec _ mb7 i d gr hn hmb hev hd hdg hlt)) rfl ?_
    rintro _ _ ⟨rfl, rfl⟩
    first | refine wl_pu (y_fieldAddr0 0 Try.underlying86 rfl rfl (by kernel_rfl) rfl) rfl ?_ | refine wl_pu (y_fieldAddr 0 Try.underlying86 rfl rfl (by kernel_rfl) rfl) rfl ?_
    first | (refine wl_do0 (d_storeAgg (k := 12) 0 rfl rfl rfl (by decide) rfl rfl (by kernel_rfl)) (fun _ _ hL => ?_); subst hL) | (refine wl_do0 (d_storeAgg (k := 12) 1 rfl rfl rfl (by decide) rfl rfl (by kernel_rfl)) (fun _ _ hL => ?_); subst hL) | (refine wl_do0 (d_storeAgg (k := 12) 2 rfl rfl rfl (by decide) rfl rfl (by kernel_rfl)) (fun _ _ hL => ?_); subst hL) | (refine wl_do0 (d_storeAgg (k := 12) 3 rfl rfl rfl (by decide) rfl rfl (by kernel_rfl)) (fun _ _ hL => ?_); subst hL) | (refine wl_do0 (d_storeAgg (k := 12) 4 rfl rfl rfl (by decide) rfl rfl (by kernel_rfl)) (fun _ _ hL => ?_); subst hL) | (refine wl_do0 (d_storeAgg (k := 12) 5 rfl rfl rfl (by decide) rfl rfl (by kernel_rfl)) (fun _ _ hL => ?_); subst hL)
    refine wl_nil ?_
    refine at_then ?_
    refine wc_seq ?_
    refine wc_seq ?_
    refine wc_region ?_
    refine wl_pu (y_move rfl) rfl ?_
    refine wl_pu (y_lenL Try.underlying76 rfl) rfl ?_
    refine wl_pu (y_move rfl) rfl ?_
    refine wl_nil ?_
    refine at_then ?_
    refine wc_block ?_
    -- at: loop
    refine wc_loop (σ := Nat) (fun j => j ≤ i) (fun j => i - j) (fun j => [(0, sl bl 0 i cap), (4, ptr b4 0), (6, ptr b6 0), (7, .map (some mb7)), (59, int i), (60, int (j : Int))])
      (fun j => (mb7, mrow int (ownl i fun q => .agg ⟨sbd lv mb rw st me ev q⟩)) :: (b6, row 86 (mdc (sbd lv mb rw st me ev d) (dkf me j) (fun _ => false))) :: (b4, row 86 (mdc sp0 (fun _ => 0) (fun _ => false))) :: (bl, row 77 cs) :: F) 0 (by omega) ⟨rfl, rfl, rfl, rfl, rfl, rfl, trivial⟩ rfl ?_
    intro j hj
    show WC _ _ _ _ [(0, sl bl 0 i cap), (4, ptr b4 0), (6, ptr b6 0), (7, .map (some mb7)), (59, int i), (60, int (j : Int))] _
    refine wc_seq ?_
    refine wc_region ?_
    refine wl_pu (y_lss rfl rfl) rfl ?_
    refine wl_nil ?_
    refine at_then ?_
    refine wc_seq ?_
    -- at: cond
    refine wc_condD rfl (fun hjn => ?_) (fun hjn => ?_)
    · skip
      have hjn' : j < i := by omega
      obtain ⟨k, hk⟩ : ∃ k : Nat, me j = k := ⟨(me j).toNat, by have := hme j hjn'; omega⟩
      have hk4 : k < 4 := by have := hme j hjn'; omega
      have hget := ownl_mget (g := fun q => Value.agg ⟨sbd lv mb rw st me ev q⟩) hjn' (by omega)
      have hdk : dkf me j k = -1 := dkf_none fun e he h => by have := hinj e j (by omega) hjn' (h.trans hk.symm); omega
      refine wc_skip ?_
      refine at_then ?_
      refine wc_seq ?_
      refine wc_block ?_
      refine wc_seq ?_
      refine wc_region ?_
      refine wl_pu (y_move rfl) rfl ?_
      refine wl_pu (y_assign rfl) rfl ?_
      refine wl_nil ?_
      refine at_then ?_
      refine wc_seq ?_
      refine wc_region ?_
      refine wl_pu (y_move rfl) rfl ?_
      refine wl_pu (y_move rfl) rfl ?_
      refine wl_rd (y_lookOkE (u := .agg #[int 0, int 0, int 0, int 0, int 0, int 0, int 0, int 0, int 0, int 0, int 0, int 0]) (k := (j : Int)) (l := ownl i fun q => .agg ⟨sbd lv mb rw st me ev q⟩) 0 key3 Try.underlying177 (zeroB_of (by kernel_rfl)) ⟨by omega, by omega⟩ (ownl_ok _ (by omega)) rfl rfl rfl hget) rfl ?_
      refine wl_pu (y_move rfl) rfl ?_
      refine wl_pu (y_extract rfl rfl) rfl ?_
      refine wl_pu (y_extract rfl rfl) rfl ?_
      refine wl_do (d_alloc (z := .agg #[int 0, int 0, int 0, int 0, int 0, int 0, int 0, int 0, int 0, int 0, int 0, int 0]) (zeroB_of (by kernel_rfl))) rfl ?_
      rintro _ _ ⟨b14, rfl, rfl⟩
      refine wl_do0 (d_storeAgg (k := 12) 0 rfl rfl rfl (by decide) rfl rfl (by kernel_rfl)) (fun _ _ hL => ?_)
      subst hL
      refine wl_heap ((b14, row 80 (sbd lv mb rw st me ev j)) :: (mb7, mrow int (ownl i fun q => .agg ⟨sbd lv mb rw st me ev q⟩)) :: (b6, row 86 (mdc (sbd lv mb rw st me ev d) (dkf me j) (fun _ => false))) :: (b4, row 86 (mdc sp0 (fun _ => 0) (fun _ => false))) :: (bl, row 77 cs) :: F) rfl ?_
      refine wl_pu (y_assign rfl) rfl ?_
      refine wl_nil ?_
      refine at_then ?_
      refine wc_seq ?_
      refine wc_seq ?_
      refine wc_region ?_
      refine wl_pu (y_move rfl) rfl ?_
      first | refine wl_pu (y_notT rfl) rfl ?_ | refine wl_pu (y_notF rfl) rfl ?_ | refine wl_pu (y_not rfl) rfl ?_ | refine wl_pu (y_notB rfl) rfl ?_
      refine wl_pu (y_move rfl) rfl ?_
      -- at: guard 2
      refine wl_gon rfl rfl ?_
      first | refine wl_pu (y_fieldAddr0 2 Try.underlying80 rfl rfl (by kernel_rfl) rfl) rfl ?_ | refine wl_pu (y_fieldAddr 2 Try.underlying80 rfl rfl (by kernel_rfl) rfl) rfl ?_
      refine wl_gon rfl rfl ?_
      first | refine wl_rd (y_loadAgg (k := 3) 0 rfl rfl rfl rfl (by kernel_rfl) (by kernel_rfl)) rfl ?_ | refine wl_rd (y_loadAgg (k := 3) 1 rfl rfl rfl rfl (by kernel_rfl) (by kernel_rfl)) rfl ?_ | refine wl_rd (y_loadAgg (k := 3) 2 rfl rfl rfl rfl (by kernel_rfl) (by kernel_rfl)) rfl ?_ | refine wl_rd (y_loadAgg (k := 3) 3 rfl rfl rfl rfl (by kernel_rfl) (by kernel_rfl)) rfl ?_ | refine wl_rd (y_loadAgg (k := 3) 4 rfl rfl rfl rfl (by kernel_rfl) (by kernel_rfl)) rfl ?_ | refine wl_rd (y_loadAgg (k := 3) 5 rfl rfl rfl rfl (by kernel_rfl) (by kernel_rfl)) rfl ?_
      refine wl_gon rfl rfl ?_
      first | refine wl_pu (y_fieldAddr0 0 Try.underlying86 rfl rfl (by kernel_rfl) rfl) rfl ?_ | refine wl_pu (y_fieldAddr 0 Try.underlying86 rfl rfl (by kernel_rfl) rfl) rfl ?_
      refine wl_gon rfl rfl ?_
      first | refine wl_pu (y_fieldAddr0 2 Try.underlying80 rfl rfl (by kernel_rfl) rfl) rfl ?_ | refine wl_pu (y_fieldAddr 2 Try.underlying80 rfl rfl (by kernel_rfl) rfl) rfl ?_
      refine wl_gon rfl rfl ?_
      first | refine wl_rd (y_loadAgg (k := 3) 0 rfl rfl rfl rfl (by kernel_rfl) (by kernel_rfl)) rfl ?_ | refine wl_rd (y_loadAgg (k := 3) 1 rfl rfl rfl rfl (by kernel_rfl) (by kernel_rfl)) rfl ?_ | refine wl_rd (y_loadAgg (k := 3) 2 rfl rfl rfl rfl (by kernel_rfl) (by kernel_rfl)) rfl ?_ | refine wl_rd (y_loadAgg (k := 3) 3 rfl rfl rfl rfl (by kernel_rfl) (by kernel_rfl)) rfl ?_ | refine wl_rd (y_loadAgg (k := 3) 4 rfl rfl rfl rfl (by kernel_rfl) (by kernel_rfl)) rfl ?_ | refine wl_rd (y_loadAgg (k := 3) 5 rfl rfl rfl rfl (by kernel_rfl) (by kernel_rfl)) rfl ?_
      refine wl_gon rfl rfl ?_
      refine wl_pu (y_neAgg (by kernel_rfl) (fun w => ne72 w lv mb rw) rfl rfl) rfl ?_
      first | refine wl_pu (y_pickT rfl rfl) rfl ?_ | refine wl_pu (y_pickF rfl rfl) rfl ?_
      refine wl_nil ?_
      refine at_then ?_
      -- at: cond
      refine wc_condF rfl ?_
      refine wc_skip ?_
      refine at_then ?_
      refine wc_seq ?_
      refine wc_region ?_
      first | refine wl_pu (y_fieldAddr0 1 Try.underlying80 rfl rfl (by kernel_rfl) rfl) rfl ?_ | refine wl_pu (y_fieldAddr 1 Try.underlying80 rfl rfl (by kernel_rfl) rfl) rfl ?_
      first | refine wl_rd (y_load 0 rfl rfl rfl (by kernel_rfl)) rfl ?_ | refine wl_rd (y_load 1 rfl rfl rfl (by kernel_rfl)) rfl ?_ | refine wl_rd (y_load 2 rfl rfl rfl (by kernel_rfl)) rfl ?_ | refine wl_rd (y_load 3 rfl rfl rfl (by kernel_rfl)) rfl ?_ | refine wl_rd (y_load 4 rfl rfl rfl (by kernel_rfl)) rfl ?_ | refine wl_rd (y_load 5 rfl rfl rfl (by kernel_rfl)) rfl ?_
      first | refine wl_pu (y_fieldAddr0 12 Try.underlying86 rfl rfl (by kernel_rfl) rfl) rfl ?_ | refine wl_pu (y_fieldAddr 12 Try.underlying86 rfl rfl (by kernel_rfl) rfl) rfl ?_
      refine wl_pu (y_ixA 1 Try.underlying78 (by kernel_rfl) rfl rfl (by omega)) rfl ?_
      refine wl_rd (y_load 2 rfl rfl (v := int (dkf me j k)) (by rw [show (0 + 12 + (me j).toNat * 1) = 12 + k by omega]; exact mdc_dk _ rfl _ _ _ hk4) (by kernel_rfl)) rfl ?_
      refine wl_pu (y_assign rfl) rfl ?_
      refine wl_nil ?_
      refine at_then ?_
      refine wc_seq ?_
      refine wc_region ?_
      refine wl_pu (y_move rfl) rfl ?_
      refine wl_pu (y_lss rfl rfl) rfl ?_
      refine wl_pu (y_move rfl) rfl ?_
      -- at: guard 2
      refine wl_splitD 86 rfl (fun _ => ?_) (fun hc => absurd ((by omega)) hc)
      refine wl_goff rfl rfl rfl rfl ?_
      refine wl_goff rfl rfl rfl rfl ?_
      refine wl_goff rfl rfl rfl rfl ?_
      refine wl_goff rfl rfl rfl rfl ?_
      refine wl_goff rfl rfl rfl rfl ?_
      refine wl_goff rfl rfl rfl rfl ?_
      refine wl_goff rfl rfl rfl rfl ?_
      first | refine wl_pu (y_pickT rfl rfl) rfl ?_ | refine wl_pu (y_pickF rfl rfl) rfl ?_
      refine wl_nil ?_
      refine at_then ?_
      -- at: cond
      refine wc_condT rfl ?_
      refine wc_region ?_
      first | refine wl_pu (y_fieldAddr0 1 Try.underlying80 rfl rfl (by kernel_rfl) rfl) rfl ?_ | refine wl_pu (y_fieldAddr 1 Try.underlying80 rfl rfl (by kernel_rfl) rfl) rfl ?_
      first | refine wl_rd (y_load 0 rfl rfl rfl (by kernel_rfl)) rfl ?_ | refine wl_rd (y_load 1 rfl rfl rfl (by kernel_rfl)) rfl ?_ | refine wl_rd (y_load 2 rfl rfl rfl (by kernel_rfl)) rfl ?_ | refine wl_rd (y_load 3 rfl rfl rfl (by kernel_rfl)) rfl ?_ | refine wl_rd (y_load 4 rfl rfl rfl (by kernel_rfl)) rfl ?_ | refine wl_rd (y_load 5 rfl rfl rfl (by kernel_rfl)) rfl ?_
      refine wl_pu (y_move rfl) rfl ?_
      first | refine wl_pu (y_fieldAddr0 12 Try.underlying86 rfl rfl (by kernel_rfl) rfl) rfl ?_ | refine wl_pu (y_fieldAddr 12 Try.underlying86 rfl rfl (by kernel_rfl) rfl) rfl ?_
      refine wl_pu (y_ixA 1 Try.underlying78 (by kernel_rfl) rfl rfl (by omega)) rfl ?_
      refine wl_do0 (d_store 2 rfl rfl rfl (by rw [mdc_len _ rfl]; exact Nat.ble_eq_true_of_le (by omega)) rfl (by kernel_rfl)) (fun _ _ hL => ?_)
      subst hL
      refine wl_heap ((b14, row 80 (sbd lv mb rw st me ev j)) :: (mb7, mrow int (ownl i fun q => .agg ⟨sbd lv mb rw st me ev q⟩)) :: (b6, row 86 (mdc (sbd lv mb rw st me ev d) (dkf me (j + 1)) (fun _ => false))) :: (b4, row 86 (mdc sp0 (fun _ => 0) (fun _ => false))) :: (bl, row 77 cs) :: F) (by simp only [setAt]; rw [show (0 + 12 + (me j).toNat * 1) = 12 + k by omega, mdc_setdk _ rfl _ _ _ hk4, dkf_succ hk]) ?_
      refine wl_nil ?_
      refine at_block_normal ?_
      refine at_then ?_
      refine wc_region ?_
      refine wl_pu (y_add rfl rfl (by omega)) rfl ?_
      refine wl_pu (y_move rfl) rfl ?_
      refine wl_nil ?_
      -- at: round
      refine at_drop ?_
      exact at_again (j + 1) (by omega) (by omega) ⟨rfl, rfl, rfl, rfl, rfl, rfl, trivial⟩ rfl
    · skip
      have hji : j = i := by omega
      subst hji
      refine wc_exit ?_
      refine at_then_exit ?_
      refine at_then_exit ?_
      refine at_block_same ?_
      refine at_then ?_
      refine wc_seq ?_
      refine wc_seq ?_
      refine wc_region ?_
      first | refine wl_pu (y_fieldAddr0 12 Try.underlying86 rfl rfl (by kernel_rfl) rfl) rfl ?_ | refine wl_pu (y_fieldAddr 12 Try.underlying86 rfl rfl (by kernel_rfl) rfl) rfl ?_
      refine wl_rd (y_loadAgg (k := 4) (vs := [int (dkf me j 0), int (dkf me j 1), int (dkf me j 2), int (dkf me j 3)]) 1 rfl rfl rfl rfl (by kernel_rfl) (by kernel_rfl)) rfl ?_
      refine wl_pu (y_move rfl) rfl ?_
      refine wl_nil ?_
      refine at_then ?_
      refine wc_block ?_
      -- at: loop
      refine wc_loop (σ := Nat) (fun m => m ≤ 4) (fun m => 4 - m) (fun m => [(4, ptr b4 0), (6, ptr b6 0), (7, .map (some mb7)), (102, .agg ⟨stc (dkf me j)⟩), (103, int (m : Int))])
        (fun m => (mb7, mrow int (ownl j fun q => .agg ⟨sbd lv mb rw st me ev q⟩)) :: (b6, row 86 (mdc (sbd lv mb rw st me ev d) (dkf me j) (ivk st me ev gr j m))) :: (b4, row 86 (mdc sp0 (fun _ => 0) (fun _ => false))) :: (bl, row 77 cs) :: F) 0 (by omega) ⟨rfl, rfl, rfl, rfl, rfl, trivial⟩ rfl ?_
      intro m hm
      show WC _ _ _ _ [(4, ptr b4 0), (6, ptr b6 0), (7, .map (some mb7)), (102, .agg ⟨stc (dkf me j)⟩), (103, int (m : Int))] _
      refine wc_seq ?_
      refine wc_region ?_
      refine wl_pu (y_lss rfl rfl) rfl ?_
      refine wl_nil ?_
      refine at_then ?_
      refine wc_seq ?_
      -- at: cond
      refine wc_condD rfl (fun hm4 => ?_) (fun hm4 => ?_)
      · skip
        have hm4' : m < 4 := by omega
        have hnext : upd (ivk st me ev gr j m) m (ivf st me ev gr j m) = ivk st me ev gr j (m + 1) := by
          funext q
          simp only [upd, ivk]
          by_cases e : q = m
          · subst e; rw [if_pos rfl, if_pos (by omega)]
          · rw [if_neg e]
            by_cases h : q < m
            · rw [if_pos h, if_pos (by omega)]
            · rw [if_neg h, if_neg (by omega)]
        have hevd := hev d hd
        rcases dkf_or me m j with hdk | ⟨e, he, hdk, hme'⟩
        · have hiv : ivf st me ev gr j m = false := by simp [ivf, hdk]
          refine wc_skip ?_
          refine at_then ?_
          refine wc_seq ?_
          refine wc_block ?_
          refine wc_seq ?_
          refine wc_region ?_
          refine wl_pu (y_move rfl) rfl ?_
          refine wl_pu (y_ixAgg (v := int (-1)) Try.underlying78 (by kernel_rfl) (by kernel_rfl) rfl rfl (by omega) (by rw [Int.toNat_natCast, ← hdk]; exact stc_nth (dkf me j) m hm4')) rfl ?_
          refine wl_pu (y_assign rfl) rfl ?_
          refine wl_pu (y_assign rfl) rfl ?_
          refine wl_nil ?_
          refine at_then ?_
          refine wc_seq ?_
          refine wc_region ?_
          refine wl_pu (y_move rfl) rfl ?_
          first | refine wl_pu (y_fieldAddr0 0 Try.underlying86 rfl rfl (by kernel_rfl) rfl) rfl ?_ | refine wl_pu (y_fieldAddr 0 Try.underlying86 rfl rfl (by kernel_rfl) rfl) rfl ?_
          first | refine wl_pu (y_fieldAddr0 7 Try.underlying80 rfl rfl (by kernel_rfl) rfl) rfl ?_ | refine wl_pu (y_fieldAddr 7 Try.underlying80 rfl rfl (by kernel_rfl) rfl) rfl ?_
          refine wl_pu (y_ixA 1 Try.underlying78 (by kernel_rfl) rfl rfl (by omega)) rfl ?_
          refine wl_rd (y_load 1 rfl rfl (v := int (st (ev d) m)) (by rw [Int.toNat_natCast]; rcases m with _|_|_|_|m <;> first | rfl | omega) (by kernel_rfl)) rfl ?_
          refine wl_pu (y_assign rfl) rfl ?_
          refine wl_nil ?_
          refine at_then ?_
          refine wc_region ?_
          refine wl_pu (y_move rfl) rfl ?_
          refine wl_pu (y_move rfl) rfl ?_
          refine wl_pu (y_geq rfl rfl) rfl ?_
          refine wl_pu (y_move rfl) rfl ?_
          -- at: guard 3
          refine wl_splitD 115 rfl (fun hc => absurd hc ((by omega))) (fun _ => ?_)
          refine wl_goff rfl rfl rfl rfl ?_
          refine wl_goff rfl rfl rfl rfl ?_
          refine wl_goff rfl rfl rfl rfl ?_
          refine wl_goffU rfl rfl rfl ?_
          refine wl_goffU rfl rfl rfl ?_
          refine wl_goff rfl rfl rfl rfl ?_
          first | refine wl_pu (y_pickT rfl rfl) rfl ?_ | refine wl_pu (y_pickF rfl rfl) rfl ?_
          refine wl_pu (y_move rfl) rfl ?_
          -- at: guard 11
          refine wl_goff rfl rfl rfl rfl ?_
          refine wl_goff rfl rfl rfl rfl ?_
          refine wl_goff rfl rfl rfl rfl ?_
          refine wl_goff rfl rfl rfl rfl ?_
          refine wl_goff rfl rfl rfl rfl ?_
          refine wl_goff rfl rfl rfl rfl ?_
          refine wl_goff rfl rfl rfl rfl ?_
          refine wl_goff rfl rfl rfl rfl ?_
          refine wl_goff rfl rfl rfl rfl ?_
          first | refine wl_pu (y_pickT rfl rfl) rfl ?_ | refine wl_pu (y_pickF rfl rfl) rfl ?_
          first | refine wl_pu (y_fieldAddr0 16 Try.underlying86 rfl rfl (by kernel_rfl) rfl) rfl ?_ | refine wl_pu (y_fieldAddr 16 Try.underlying86 rfl rfl (by kernel_rfl) rfl) rfl ?_
          refine wl_pu (y_ixA 1 Try.underlying84 (by kernel_rfl) rfl rfl (by omega)) rfl ?_
          refine wl_do0 (d_store 1 rfl rfl rfl (by rw [mdc_len _ rfl]; exact Nat.ble_eq_true_of_le (by omega)) rfl (by kernel_rfl)) (fun _ _ hL => ?_)
          subst hL
          refine wl_heap ((mb7, mrow int (ownl j fun q => .agg ⟨sbd lv mb rw st me ev q⟩)) :: (b6, row 86 (mdc (sbd lv mb rw st me ev d) (dkf me j) (ivk st me ev gr j (m + 1)))) :: (b4, row 86 (mdc sp0 (fun _ => 0) (fun _ => false))) :: (bl, row 77 cs) :: F) (by simp only [setAt]; rw [show (0 + 16 + (m : Int).toNat * 1) = 16 + m by omega, mdc_setiv _ rfl _ _ _ hm4', ← hnext, hiv]) ?_
          refine wl_nil ?_
          refine at_block_normal ?_
          refine at_then ?_
          refine wc_region ?_
          refine wl_pu (y_add rfl rfl (by omega)) rfl ?_
          refine wl_pu (y_move rfl) rfl ?_
          refine wl_nil ?_
          -- at: round
          exact at_again (m + 1) (by omega) (by omega) ⟨rfl, rfl, rfl, rfl, rfl, trivial⟩ rfl
        · have hmj : m < j := by have := hme e he; omega
          have hs : st (ev d) m = 1 ∨ st (ev d) m = 2 := hdg ▸ hst m hmj
          have heve := hev e he
          have hget := ownl_mget (g := fun q => Value.agg ⟨sbd lv mb rw st me ev q⟩) he (by omega)
          refine wc_skip ?_
          refine at_then ?_
          refine wc_seq ?_
          refine wc_block ?_
          refine wc_seq ?_
          refine wc_region ?_
          refine wl_pu (y_move rfl) rfl ?_
          refine wl_pu (y_ixAgg (v := int (e : Int)) Try.underlying78 (by kernel_rfl) (by kernel_rfl) rfl rfl (by omega) (by rw [Int.toNat_natCast, ← hdk]; exact stc_nth (dkf me j) m hm4')) rfl ?_
          refine wl_pu (y_assign rfl) rfl ?_
          refine wl_pu (y_assign rfl) rfl ?_
          refine wl_nil ?_
          refine at_then ?_
          refine wc_seq ?_
          refine wc_region ?_
          refine wl_pu (y_move rfl) rfl ?_
          first | refine wl_pu (y_fieldAddr0 0 Try.underlying86 rfl rfl (by kernel_rfl) rfl) rfl ?_ | refine wl_pu (y_fieldAddr 0 Try.underlying86 rfl rfl (by kernel_rfl) rfl) rfl ?_
          first | refine wl_pu (y_fieldAddr0 7 Try.underlying80 rfl rfl (by kernel_rfl) rfl) rfl ?_ | refine wl_pu (y_fieldAddr 7 Try.underlying80 rfl rfl (by kernel_rfl) rfl) rfl ?_
          refine wl_pu (y_ixA 1 Try.underlying78 (by kernel_rfl) rfl rfl (by omega)) rfl ?_
          refine wl_rd (y_load 1 rfl rfl (v := int (st (ev d) m)) (by rw [Int.toNat_natCast]; rcases m with _|_|_|_|m <;> first | rfl | omega) (by kernel_rfl)) rfl ?_
          refine wl_pu (y_assign rfl) rfl ?_
          refine wl_nil ?_
          refine at_then ?_
          refine wc_region ?_
          refine wl_pu (y_move rfl) rfl ?_
          refine wl_pu (y_move rfl) rfl ?_
          refine wl_pu (y_geq rfl rfl) rfl ?_
          refine wl_pu (y_move rfl) rfl ?_
          -- at: guard 3
          refine wl_splitD 115 rfl (fun _ => ?_) (fun hc => absurd ((by omega)) hc)
          refine wl_gon rfl rfl ?_
          refine wl_pu (y_move rfl) rfl ?_
          refine wl_gon rfl rfl ?_
          refine wl_pu (y_eql rfl rfl) rfl ?_
          refine wl_gon rfl rfl ?_
          refine wl_pu (y_move rfl) rfl ?_
          -- at: guard 6
          rcases hs with hs | hs
          · have hiv : ivf st me ev gr j m = decide (ev e ≥ ev d - 1) := by
              rw [hdg] at hs
              simp [ivf, hdk, hs, hdg]
            refine wl_splitD 118 rfl (fun _ => ?_) (fun hc => absurd (hs) hc)
            refine wl_goff rfl rfl rfl rfl ?_
            refine wl_goff rfl rfl rfl rfl ?_
            refine wl_gon rfl rfl ?_
            first | refine wl_pu (y_pickT rfl rfl) rfl ?_ | refine wl_pu (y_pickF rfl rfl) rfl ?_
            first | refine wl_pu (y_pickT rfl rfl) rfl ?_ | refine wl_pu (y_pickF rfl rfl) rfl ?_
            refine wl_pu (y_move rfl) rfl ?_
            -- at: guard 11
            refine wl_gon rfl rfl ?_
            refine wl_pu (y_move rfl) rfl ?_
            refine wl_gon rfl rfl ?_
            refine wl_pu (y_move rfl) rfl ?_
            refine wl_gon rfl rfl ?_
            refine wl_rd (y_lookE (u := .agg #[int 0, int 0, int 0, int 0, int 0, int 0, int 0, int 0, int 0, int 0, int 0, int 0]) (v := .agg ⟨sbd lv mb rw st me ev e⟩) (k := (e : Int)) (l := ownl j fun q => .agg ⟨sbd lv mb rw st me ev q⟩) 0 key3 Try.underlying177 (zeroB_of (by kernel_rfl)) ⟨by omega, by omega⟩ (ownl_ok _ (by omega)) rfl rfl rfl (by rw [hget]; rfl)) rfl ?_
            refine wl_gon rfl rfl ?_
            refine wl_pu (y_field 5 Try.underlying80 rfl rfl (by kernel_rfl) rfl rfl) rfl ?_
            refine wl_gon rfl rfl ?_
            first | refine wl_pu (y_fieldAddr0 0 Try.underlying86 rfl rfl (by kernel_rfl) rfl) rfl ?_ | refine wl_pu (y_fieldAddr 0 Try.underlying86 rfl rfl (by kernel_rfl) rfl) rfl ?_
            refine wl_gon rfl rfl ?_
            first | refine wl_pu (y_fieldAddr0 5 Try.underlying80 rfl rfl (by kernel_rfl) rfl) rfl ?_ | refine wl_pu (y_fieldAddr 5 Try.underlying80 rfl rfl (by kernel_rfl) rfl) rfl ?_
            refine wl_gon rfl rfl ?_
            first | refine wl_rd (y_load 0 rfl rfl rfl (by kernel_rfl)) rfl ?_ | refine wl_rd (y_load 1 rfl rfl rfl (by kernel_rfl)) rfl ?_ | refine wl_rd (y_load 2 rfl rfl rfl (by kernel_rfl)) rfl ?_ | refine wl_rd (y_load 3 rfl rfl rfl (by kernel_rfl)) rfl ?_ | refine wl_rd (y_load 4 rfl rfl rfl (by kernel_rfl)) rfl ?_ | refine wl_rd (y_load 5 rfl rfl rfl (by kernel_rfl)) rfl ?_
            refine wl_gon rfl rfl ?_
            refine wl_pu (y_sub rfl rfl (by omega)) rfl ?_
            refine wl_gon rfl rfl ?_
            refine wl_pu (y_geq rfl rfl) rfl ?_
            first | refine wl_pu (y_pickT rfl rfl) rfl ?_ | refine wl_pu (y_pickF rfl rfl) rfl ?_
            first | refine wl_pu (y_fieldAddr0 16 Try.underlying86 rfl rfl (by kernel_rfl) rfl) rfl ?_ | refine wl_pu (y_fieldAddr 16 Try.underlying86 rfl rfl (by kernel_rfl) rfl) rfl ?_
            refine wl_pu (y_ixA 1 Try.underlying84 (by kernel_rfl) rfl rfl (by omega)) rfl ?_
            refine wl_do0 (d_store 1 rfl rfl rfl (by rw [mdc_len _ rfl]; exact Nat.ble_eq_true_of_le (by omega)) rfl (by kernel_rfl)) (fun _ _ hL => ?_)
            subst hL
            refine wl_heap ((mb7, mrow int (ownl j fun q => .agg ⟨sbd lv mb rw st me ev q⟩)) :: (b6, row 86 (mdc (sbd lv mb rw st me ev d) (dkf me j) (ivk st me ev gr j (m + 1)))) :: (b4, row 86 (mdc sp0 (fun _ => 0) (fun _ => false))) :: (bl, row 77 cs) :: F) (by simp only [setAt]; rw [show (0 + 16 + (m : Int).toNat * 1) = 16 + m by omega, mdc_setiv _ rfl _ _ _ hm4', ← hnext, hiv]) ?_
            refine wl_nil ?_
            refine at_block_normal ?_
            refine at_then ?_
            refine wc_region ?_
            refine wl_pu (y_add rfl rfl (by omega)) rfl ?_
            refine wl_pu (y_move rfl) rfl ?_
            refine wl_nil ?_
            -- at: round
            exact at_again (m + 1) (by omega) (by omega) ⟨rfl, rfl, rfl, rfl, rfl, trivial⟩ rfl
          · have hiv : ivf st me ev gr j m = false := by
              rw [hdg] at hs
              simp [ivf, hs]
            refine wl_splitD 118 rfl (fun hc => absurd hc ((by omega))) (fun _ => ?_)
            refine wl_gon rfl rfl ?_
            refine wl_pu (y_move rfl) rfl ?_
            refine wl_gon rfl rfl ?_
            refine wl_pu (y_eql rfl rfl) rfl ?_
            refine wl_gon rfl rfl ?_
            first | refine wl_pu (y_pickT rfl rfl) rfl ?_ | refine wl_pu (y_pickF rfl rfl) rfl ?_
            first | refine wl_pu (y_pickT rfl rfl) rfl ?_ | refine wl_pu (y_pickF rfl rfl) rfl ?_
            refine wl_pu (y_move rfl) rfl ?_
            -- at: guard 11
            refine wl_splitD 123 rfl (fun hc => absurd hc ((by omega))) (fun _ => ?_)
            refine wl_goff rfl rfl rfl rfl ?_
            refine wl_goff rfl rfl rfl rfl ?_
            refine wl_goff rfl rfl rfl rfl ?_
            refine wl_goff rfl rfl rfl rfl ?_
            refine wl_goff rfl rfl rfl rfl ?_
            refine wl_goff rfl rfl rfl rfl ?_
            refine wl_goff rfl rfl rfl rfl ?_
            refine wl_goff rfl rfl rfl rfl ?_
            refine wl_goff rfl rfl rfl rfl ?_
            first | refine wl_pu (y_pickT rfl rfl) rfl ?_ | refine wl_pu (y_pickF rfl rfl) rfl ?_
            first | refine wl_pu (y_fieldAddr0 16 Try.underlying86 rfl rfl (by kernel_rfl) rfl) rfl ?_ | refine wl_pu (y_fieldAddr 16 Try.underlying86 rfl rfl (by kernel_rfl) rfl) rfl ?_
            refine wl_pu (y_ixA 1 Try.underlying84 (by kernel_rfl) rfl rfl (by omega)) rfl ?_
            refine wl_do0 (d_store 1 rfl rfl rfl (by rw [mdc_len _ rfl]; exact Nat.ble_eq_true_of_le (by omega)) rfl (by kernel_rfl)) (fun _ _ hL => ?_)
            subst hL
            refine wl_heap ((mb7, mrow int (ownl j fun q => .agg ⟨sbd lv mb rw st me ev q⟩)) :: (b6, row 86 (mdc (sbd lv mb rw st me ev d) (dkf me j) (ivk st me ev gr j (m + 1)))) :: (b4, row 86 (mdc sp0 (fun _ => 0) (fun _ => false))) :: (bl, row 77 cs) :: F) (by simp only [setAt]; rw [show (0 + 16 + (m : Int).toNat * 1) = 16 + m by omega, mdc_setiv _ rfl _ _ _ hm4', ← hnext, hiv]) ?_
            refine wl_nil ?_
            refine at_block_normal ?_
            refine at_then ?_
            refine wc_region ?_
            refine wl_pu (y_add rfl rfl (by omega)) rfl ?_
            refine wl_pu (y_move rfl) rfl ?_
            refine wl_nil ?_
            -- at: round
            exact at_again (m + 1) (by omega) (by omega) ⟨rfl, rfl, rfl, rfl, rfl, trivial⟩ rfl
      · skip
        have hm4' : m = 4 := by omega
        subst hm4'
        have hlast : mdc (sbd lv mb rw st me ev d) (dkf me j) (ivk st me ev gr j 4) = mdc (sbd lv mb rw st me ev d) (dkf me j) (ivf st me ev gr j) := rfl
        rw [hlast]
        refine wc_exit ?_
        refine at_then_exit ?_
        refine at_then_exit ?_
        refine at_block_same ?_
        refine at_then ?_
        refine wc_seq ?_
        refine wc_region ?_
        refine wl_rd (y_loadAgg (k := 20) (vs := mdc (sbd lv mb rw st me ev d) (dkf me j) (ivf st me ev gr j)) 1 rfl rfl rfl rfl (by kernel_rfl) (by kernel_rfl)) rfl ?_
        refine wl_do0 (d_storeAgg (k := 20) 2 rfl rfl rfl (by decide) rfl rfl (by kernel_rfl)) (fun _ _ hL => ?_)
        subst hL
        refine wl_pu (y_assign rfl) rfl ?_
        refine wl_nil ?_
        refine at_then ?_
        refine wc_ret ?_
        -- at: ret
        refine at_heap ((mb7, mrow int (ownl j fun q => .agg ⟨sbd lv mb rw st me ev q⟩)) :: (b6, row 86 (mdc (sbd lv mb rw st me ev d) (dkf me j) (ivf st me ev gr j))) :: (b4, row 86 (mdc (sbd lv mb rw st me ev d) (dkf me j) (ivf st me ev gr j))) :: (bl, row 77 cs) :: F) rfl ?_
        refine at_drop (at_drop ?_)
        refine at_retC1 (k := 20) (L2 := (bl, row 77 cs) :: F) (vs := mdc (sbd lv mb rw st me ev d) (dkf me j) (ivf st me ev gr j)) 0 rfl rfl rfl rfl rfl rfl (by kernel_rfl) (by kernel_rfl) (fun _ hO => hO.drop) ?_
        exact ⟨rfl, rfl⟩
end
end Go.Proofs.Ytkpndnjhfocheaa
