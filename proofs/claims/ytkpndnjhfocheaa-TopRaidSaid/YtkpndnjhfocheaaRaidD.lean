/- slices.Compact over whole numbers (whose elements are elements of what came in); place.Rows. -/
import Derived.Test.YtkpndnjhfocheaaRaidC
namespace Go.Proofs.Ytkpndnjhfocheaa
open Go.SL
variable {X : Inhabited SL.Outside}

theorem ints_at {zs : List Int} {sp : List Value} {i : Nat} (h : i < zs.length) : nth (zs.map int ++ sp) i = some (int zs[i]) := by
  rw [nth_eq, List.getElem?_append_left (by simpa using h)]; simp [h]
theorem ints_set {zs : List Int} {sp : List Value} {i : Nat} (h : i < zs.length) (z : Int) : (zs.map int ++ sp).set i (int z) = (zs.set i z).map int ++ sp := by
  rw [List.set_append_left _ _ (by simpa using h), List.map_set]
theorem mem_set_of {zs xs : List Int} {i : Nat} {z : Int} (h : ∀ y ∈ zs, y ∈ xs) (hz : z ∈ xs) : ∀ y ∈ zs.set i z, y ∈ xs := fun y hy => by
  rcases List.mem_or_eq_of_mem_set hy with hy | rfl
  · exact h y hy
  · exact hz
theorem clear_row {zs : List Int} {sp : List Value} {k cap : Nat} (hk : k ≤ zs.length) (hc : zs.length + sp.length = cap) :
    ∃ sp' : List Value, (zs.map int ++ sp).take (if cap = k then 0 else 0 + k * 1) ++ List.replicate (zs.length - k) (int 0) ++ (zs.map int ++ sp).drop ((if cap = k then 0 else 0 + k * 1) + (zs.length - k)) = (zs.take k).map int ++ sp' ∧ k + sp'.length = cap := by
  by_cases h : cap = k
  · have h1 : zs.length = k := by omega
    rw [if_pos h, h1]
    exact ⟨sp, by simp [← h1], by omega⟩
  · rw [if_neg h, Nat.zero_add, Nat.mul_one, show k + (zs.length - k) = (zs.map int).length by simp; omega, List.drop_left, List.take_append_of_le_length (by simpa using hk), ← List.map_take, List.append_assoc]
    exact ⟨_, rfl, by simp; omega⟩

/-- What comes out of Compact, or of Rows: some of the numbers that came in. -/
def CRes (xs : List Int) (F : Hp) : Value → Hp → Prop := fun v L' => ∃ (ys : List Int) (fr : Hp), (∀ y ∈ ys, y ∈ xs) ∧ SlF 3 1 v ys.length (ys.map int) fr ∧ ys.length ≤ xs.length ∧ L' = fr ++ F

theorem compactS_spec (F : Hp) (b cap : Nat) (xs : List Int) (sp : List Value) (hc : xs.length + sp.length = cap) (hn : xs.length ≤ 1000000) :
    Ctr Try.prog 92 [sl b 0 xs.length cap] ((b, row 3 (xs.map int ++ sp)) :: F) (CRes xs F) := by
  have hdone : ∀ (zs : List Int) (sp' : List Value), (∀ y ∈ zs, y ∈ xs) → zs.length ≤ xs.length → zs.length + sp'.length = cap → CRes xs F (sl b 0 zs.length cap) ((b, row 3 (zs.map int ++ sp')) :: F) := fun zs sp' h hl hc' =>
    ⟨zs, [(b, row 3 (zs.map int ++ sp'))], h, .own b _ cap _ sp' (by simp) (by omega) (by simpa using hc'), hl, rfl⟩
  refine spec_body Try.func92 Try.ntmps92 rfl rfl ?_
  refine wc_seq ?_
  refine wc_region ?_
  refine wl_pu (y_assign rfl) rfl ?_
  refine wl_nil ?_
  refine at_then ?_
  refine wc_seq ?_
  refine wc_seq ?_
  refine wc_region ?_
  refine wl_pu (y_move rfl) rfl ?_
  refine wl_pu (y_lenL Try.underlying74 rfl) rfl ?_
  refine wl_pu (y_lss rfl rfl) rfl ?_
  refine wl_nil ?_
  refine at_then ?_
  -- at: cond
  refine wc_condD rfl (fun h2 => ?_) (fun h2 => ?_)
  · skip
    refine wc_seq ?_
    refine wc_region ?_
    refine wl_pu (y_move rfl) rfl ?_
    refine wl_pu (y_assign rfl) rfl ?_
    refine wl_nil ?_
    refine at_then ?_
    refine wc_ret ?_
    refine at_then_ret ?_
    -- at: ret
    refine at_ret1 rfl rfl ?_
    exact hdone xs sp (fun _ h => h) (Nat.le_refl _) hc
  · skip
    refine wc_skip ?_
    refine at_then ?_
    refine wc_seq ?_
    refine wc_seq ?_
    refine wc_region ?_
    refine wl_pu (y_assign rfl) rfl ?_
    refine wl_nil ?_
    refine at_then ?_
    refine wc_block ?_
    -- at: loop
    refine wc_loop (σ := Nat) (fun k => 1 ≤ k ∧ k ≤ xs.length) (fun k => xs.length - k) (fun k => [(0, sl b 0 xs.length cap), (3, int (k : Int))]) (fun _ => (b, row 3 (xs.map int ++ sp)) :: F) 1 (by omega) ⟨rfl, rfl, trivial⟩ rfl ?_
    intro k hk
    refine wc_seq ?_
    refine wc_seq ?_
    refine wc_region ?_
    refine wl_pu (y_move rfl) rfl ?_
    refine wl_pu (y_move rfl) rfl ?_
    refine wl_pu (y_lenL Try.underlying74 rfl) rfl ?_
    refine wl_pu (y_lss rfl rfl) rfl ?_
    refine wl_nil ?_
    refine at_then ?_
    -- at: cond
    refine wc_condD rfl (fun hkl => ?_) (fun hkl => ?_)
    · skip
      have hkl' : k < xs.length := by omega
      refine wc_skip ?_
      refine at_then ?_
      refine wc_seq ?_
      refine wc_block ?_
      refine wc_seq ?_
      -- at: draw
      apply wc_draw 10 (pl := [_, _, _, _, _, _, _, _, _, _]) (by kernel_rfl)
      rotate_left
      refine hw_pu (y_move rfl) ?_
      refine hw_pu (y_move rfl) ?_
      first | refine hw_pu (y_ix1 Try.underlying74 (by kernel_rfl) rfl rfl (by omega)) ?_ | refine hw_pu (y_ix 1 Try.underlying74 (by kernel_rfl) rfl rfl (by omega)) ?_
      refine hw_rd (y_load 0 rfl rfl (v := int xs[k]) (by rw [Int.toNat_natCast]; exact ints_at hkl') (by kernel_rfl)) ?_
      refine hw_pu (y_move rfl) ?_
      refine hw_pu (y_move rfl) ?_
      refine hw_pu (y_sub rfl rfl (by omega)) ?_
      first | refine hw_pu (y_ix1 Try.underlying74 (by kernel_rfl) rfl rfl (by omega)) ?_ | refine hw_pu (y_ix 1 Try.underlying74 (by kernel_rfl) rfl rfl (by omega)) ?_
      refine hw_rd (y_load 0 rfl rfl (v := int (xs[k - 1]'(by omega))) (by rw [show ((k : Int) - 1).toNat = k - 1 by omega]; exact ints_at (by omega)) (by kernel_rfl)) ?_
      refine hw_pu (y_eql rfl rfl) ?_
      refine hw_end [] rfl ?_
      case hB => kernel_rfl
      refine wl_nil ?_
      refine at_nq ?_
      refine at_then ?_
      -- at: cond
      refine wc_condD rfl (fun heq => ?_) (fun heq => ?_)
      · skip
        refine wc_seq ?_
        refine wc_region ?_
        refine wl_pu (y_move rfl) rfl ?_
        refine wl_pu (y_move rfl) rfl ?_
        refine wl_pu (y_fromL 1 Try.underlying74 (by kernel_rfl) rfl rfl (by omega)) rfl ?_
        refine wl_pu (y_assign rfl) rfl ?_
        refine wl_nil ?_
        refine at_then ?_
        refine wc_seq ?_
        refine wc_seq ?_
        refine wc_region ?_
        refine wl_pu (y_assign rfl) rfl ?_
        refine wl_nil ?_
        refine at_then ?_
        refine wc_block ?_
        -- at: loop
        refine wc_loop (σ := Nat × Nat × List Int) (fun s => 1 ≤ s.1 ∧ s.1 ≤ xs.length - k ∧ k ≤ s.2.1 ∧ s.2.1 < k + s.1 ∧ s.2.2.length = xs.length ∧ ∀ y ∈ s.2.2, y ∈ xs) (fun s => xs.length - k - s.1)
          (fun s => [(0, sl b 0 xs.length cap), (3, int (s.2.1 : Int)), (4, sl b k (xs.length - k) (cap - k)), (5, int (s.1 : Int))]) (fun s => (b, row 3 (s.2.2.map int ++ sp)) :: F) (1, k, xs) ⟨Nat.le_refl _, by show 1 ≤ xs.length - k; omega, Nat.le_refl _, by show k < k + 1; omega, rfl, fun _ h => h⟩
          ⟨rfl, rfl, by show some _ = some _; rw [Int.toNat_natCast, if_neg (by omega), Nat.zero_add, Nat.mul_one], rfl, trivial⟩ rfl ?_
        rintro ⟨j, m, zs⟩ ⟨hj1, hj2, hm1, hm2, hz, hin⟩
        simp only [] at hj1 hj2 hm1 hm2 hz hin
        show WC _ _ _ _ [(0, sl b 0 xs.length cap), (3, int (m : Int)), (4, sl b k (xs.length - k) (cap - k)), (5, int (j : Int))] ((b, row 3 (zs.map int ++ sp)) :: F)
        refine wc_seq ?_
        refine wc_seq ?_
        refine wc_region ?_
        refine wl_pu (y_move rfl) rfl ?_
        refine wl_pu (y_move rfl) rfl ?_
        refine wl_pu (y_lenL Try.underlying74 rfl) rfl ?_
        refine wl_pu (y_lss rfl rfl) rfl ?_
        refine wl_nil ?_
        refine at_then ?_
        -- at: cond
        refine wc_condD rfl (fun hjl => ?_) (fun hjl => ?_)
        · skip
          have hjl' : k + j < zs.length := by omega
          refine wc_skip ?_
          refine at_then ?_
          refine wc_seq ?_
          refine wc_block ?_
          refine wc_seq ?_
          -- at: draw
          apply wc_draw 10 (pl := [_, _, _, _, _, _, _, _, _, _]) (by kernel_rfl)
          rotate_left
          refine hw_pu (y_move rfl) ?_
          refine hw_pu (y_move rfl) ?_
          first | refine hw_pu (y_ix1 Try.underlying74 (by kernel_rfl) rfl rfl (by omega)) ?_ | refine hw_pu (y_ix 1 Try.underlying74 (by kernel_rfl) rfl rfl (by omega)) ?_
          refine hw_rd (y_load 0 rfl rfl (v := int zs[k + j]) (by rw [Int.toNat_natCast, Nat.mul_one]; exact ints_at hjl') (by kernel_rfl)) ?_
          refine hw_pu (y_move rfl) ?_
          refine hw_pu (y_move rfl) ?_
          refine hw_pu (y_sub rfl rfl (by omega)) ?_
          first | refine hw_pu (y_ix1 Try.underlying74 (by kernel_rfl) rfl rfl (by omega)) ?_ | refine hw_pu (y_ix 1 Try.underlying74 (by kernel_rfl) rfl rfl (by omega)) ?_
          refine hw_rd (y_load 0 rfl rfl (v := int (zs[k + (j - 1)]'(by omega))) (by rw [show ((j : Int) - 1).toNat = j - 1 by omega, Nat.mul_one]; exact ints_at (by omega)) (by kernel_rfl)) ?_
          refine hw_pu (y_neq rfl rfl) ?_
          refine hw_end [] rfl ?_
          case hB => kernel_rfl
          refine wl_nil ?_
          refine at_nq ?_
          refine at_then ?_
          -- at: cond
          refine wc_condD rfl (fun hne => ?_) (fun hne => ?_)
          · skip
            refine wc_seq ?_
            refine wc_region ?_
            refine wl_pu (y_move rfl) rfl ?_
            refine wl_pu (y_move rfl) rfl ?_
            refine wl_pu (y_move rfl) rfl ?_
            refine wl_pu (y_move rfl) rfl ?_
            first | refine wl_pu (y_ix1 Try.underlying74 (by kernel_rfl) rfl rfl (by omega)) rfl ?_ | refine wl_pu (y_ix 1 Try.underlying74 (by kernel_rfl) rfl rfl (by omega)) rfl ?_
            refine wl_rd (y_load 0 rfl rfl (v := int zs[k + j]) (by rw [Int.toNat_natCast, Nat.mul_one]; exact ints_at hjl') (by kernel_rfl)) rfl ?_
            first | refine wl_pu (y_ix1 Try.underlying74 (by kernel_rfl) rfl rfl (by omega)) rfl ?_ | refine wl_pu (y_ix 1 Try.underlying74 (by kernel_rfl) rfl rfl (by omega)) rfl ?_
            refine wl_do0 (d_store 0 rfl rfl rfl (by rw [Int.toNat_natCast]; exact Nat.ble_eq_true_of_le (by simp; omega)) rfl (by kernel_rfl)) (fun _ _ hL => ?_)
            subst hL
            refine wl_heap ((b, row 3 ((zs.set m zs[k + j]).map int ++ sp)) :: F) (by show (b, row 3 _) :: F = _; rw [Int.toNat_natCast, ints_set (by omega)]) ?_
            refine wl_nil ?_
            refine at_then ?_
            refine wc_region ?_
            refine wl_pu (y_move rfl) rfl ?_
            refine wl_pu (y_add rfl rfl (by omega)) rfl ?_
            refine wl_pu (y_assign rfl) rfl ?_
            refine wl_nil ?_
            refine at_block_normal ?_
            refine at_then ?_
            refine wc_region ?_
            refine wl_pu (y_move rfl) rfl ?_
            refine wl_pu (y_add rfl rfl (by omega)) rfl ?_
            refine wl_pu (y_assign rfl) rfl ?_
            refine wl_nil ?_
            -- at: round
            exact at_again (j + 1, m + 1, zs.set m zs[k + j]) ⟨by show 1 ≤ j + 1; omega, by show j + 1 ≤ xs.length - k; omega, by show k ≤ m + 1; omega, by show m + 1 < k + (j + 1); omega, by show (zs.set m zs[k + j]).length = xs.length; rw [List.length_set]; exact hz, mem_set_of hin (hin _ (List.getElem_mem _))⟩ (by show xs.length - k - (j + 1) < xs.length - k - j; omega) ⟨rfl, rfl, rfl, rfl, trivial⟩ rfl
          · skip
            refine wc_skip ?_
            refine at_block_normal ?_
            refine at_then ?_
            refine wc_region ?_
            refine wl_pu (y_move rfl) rfl ?_
            refine wl_pu (y_add rfl rfl (by omega)) rfl ?_
            refine wl_pu (y_assign rfl) rfl ?_
            refine wl_nil ?_
            -- at: round
            exact at_again (j + 1, m, zs) ⟨by show 1 ≤ j + 1; omega, by show j + 1 ≤ xs.length - k; omega, hm1, by show m < k + (j + 1); omega, hz, hin⟩ (by show xs.length - k - (j + 1) < xs.length - k - j; omega) ⟨rfl, rfl, rfl, rfl, trivial⟩ rfl
        · skip
          have hml : m ≤ zs.length := by omega
          obtain ⟨sp', hsp, hspl⟩ := clear_row (sp := sp) (cap := cap) hml (by omega)
          refine wc_exit ?_
          refine at_then_exit ?_
          refine at_then_exit ?_
          refine at_block_same ?_
          refine at_then ?_
          refine wc_seq ?_
          refine wc_region ?_
          refine wl_pu (y_move rfl) rfl ?_
          refine wl_pu (y_move rfl) rfl ?_
          refine wl_pu (y_fromL 1 Try.underlying74 (by kernel_rfl) rfl rfl (by omega)) rfl ?_
          -- at: op (call {callee:(builtin clear), args:[t56], argTypes:[74]})
          refine wl_do0 (d_clear (z := int 0) 0 Try.underlying74 (zeroB_of (by kernel_rfl)) rfl rfl rfl ?_) (fun _ _ hL => ?_)
          · rw [Int.toNat_natCast, List.length_append, List.length_map]
            split <;> omega
          subst hL
          refine wl_heap ((b, row 3 ((zs.take m).map int ++ sp')) :: F) (by show (b, row 3 _) :: F = _; rw [Int.toNat_natCast, ← hz, hsp]) ?_
          refine wl_nil ?_
          refine at_then ?_
          refine wc_seq ?_
          refine wc_region ?_
          refine wl_pu (y_move rfl) rfl ?_
          refine wl_pu (y_move rfl) rfl ?_
          refine wl_pu (y_toL 1 Try.underlying74 (by kernel_rfl) rfl rfl (by omega)) rfl ?_
          refine wl_pu (y_assign rfl) rfl ?_
          refine wl_nil ?_
          refine at_then ?_
          refine wc_ret ?_
          refine at_block_ret ?_
          refine at_then_ret ?_
          refine at_then_ret ?_
          refine at_block_ret ?_
          refine at_then_ret ?_
          -- at: ret
          refine at_ret1 rfl rfl ?_
          have htl : (zs.take m).length = m := by rw [List.length_take]; omega
          have := hdone (zs.take m) sp' (fun y hy => hin y (List.mem_of_mem_take hy)) (by omega) (by omega)
          rw [htl] at this
          rw [Int.toNat_natCast]
          exact this
      · skip
        refine wc_skip ?_
        refine at_block_normal ?_
        refine at_then ?_
        refine wc_region ?_
        refine wl_pu (y_move rfl) rfl ?_
        refine wl_pu (y_add rfl rfl (by omega)) rfl ?_
        refine wl_pu (y_assign rfl) rfl ?_
        refine wl_nil ?_
        -- at: round
        exact at_again (k + 1) (by omega) (by omega) ⟨rfl, rfl, trivial⟩ rfl
    · skip
      refine wc_exit ?_
      refine at_then_exit ?_
      refine at_then_exit ?_
      refine at_block_same ?_
      refine at_then ?_
      refine wc_seq ?_
      refine wc_region ?_
      refine wl_pu (y_move rfl) rfl ?_
      refine wl_pu (y_assign rfl) rfl ?_
      refine wl_nil ?_
      refine at_then ?_
      refine wc_ret ?_
      -- at: ret
      refine at_ret1 rfl rfl ?_
      exact hdone xs sp (fun _ h => h) (Nat.le_refl _) hc

theorem compact_spec (F : Hp) {v : Value} {xs : List Int} {fr : Hp} (hS : SlF 3 1 v xs.length (xs.map int) fr) (hn : xs.length ≤ 1000000) : Ctr Try.prog 92 [v] (fr ++ F) (CRes xs F) := by
  generalize hk : xs.length = k at hS
  generalize hc : xs.map int = cs at hS
  cases hS with
  | nil =>
    have hx : xs = [] := List.map_eq_nil_iff.1 hc
    subst hx
    refine spec_body Try.func92 Try.ntmps92 rfl rfl ?_
    refine wc_seq ?_
    refine wc_region ?_
    refine wl_pu (y_assign rfl) rfl ?_
    refine wl_nil ?_
    refine at_then ?_
    refine wc_seq ?_
    refine wc_seq ?_
    refine wc_region ?_
    refine wl_pu (y_move rfl) rfl ?_
    refine wl_pu (y_lenL Try.underlying74 rfl) rfl ?_
    refine wl_pu (y_lss rfl rfl) rfl ?_
    refine wl_nil ?_
    refine at_then ?_
    -- at: cond
    refine wc_condD rfl (fun _ => ?_) (fun hc => absurd ((by omega)) hc)
    refine wc_seq ?_
    refine wc_region ?_
    refine wl_pu (y_move rfl) rfl ?_
    refine wl_pu (y_assign rfl) rfl ?_
    refine wl_nil ?_
    refine at_then ?_
    refine wc_ret ?_
    refine at_then_ret ?_
    -- at: ret
    refine at_ret1 rfl rfl ?_
    exact ⟨[], [], by simp, .nil, Nat.le_refl _, rfl⟩
  | own b _ cap _ sp hx hcap hs =>
    subst hk
    subst hc
    exact compactS_spec F b cap xs sp (by simpa using hs) hn

section
variable {lv rw : Int} {n : Nat}
theorem rows_spec (F : Hp) (h : GOk lv n rw) (a m : Int) (ha : 0 ≤ a) (hm : 1 ≤ m ∧ m ≤ 4) (hs : a + m ≤ rw * ((n : Int) - 1)) :
    Ctr Try.prog 41 [.agg ⟨geo lv n rw⟩, int a, int m] F (fun v L' => ∃ (ys : List Int) (fr : Hp), (∀ y ∈ ys, ∃ i, a ≤ i ∧ i < a + m ∧ y = atR n i) ∧ ys.length ≤ 4 ∧ SlF 3 1 v ys.length (ys.map int) fr ∧ L' = fr ++ F) := by
  have hn := h.mem3
  have hsz : rw * ((n : Int) - 1) ≤ 200 := by
    have hh := h.hi
    rcases h.three with rfl | rfl | rfl <;> simp <;> omega
  refine spec_body Try.func41 Try.ntmps41 rfl rfl ?_
  refine wc_seq ?_
  refine wc_region ?_
  refine wl_do (d_box rfl) rfl ?_
  rintro _ _ ⟨bNEW, rfl, rfl⟩
  refine wl_pu (y_assign rfl) rfl ?_
  refine wl_nil ?_
  refine at_then ?_
  refine wc_seq ?_
  refine wc_region ?_
  refine wl_rd (y_loadAgg (k := 3) (vs := geo lv n rw) 0 rfl rfl rfl rfl (by kernel_rfl) (by kernel_rfl)) rfl ?_
  -- at: op (call {callee:(value (func 90)), args:[t13], argTypes:[72]})
  refine wl_do (d_call (by kernel_rfl) rfl (size_spec _ h)) rfl ?_
  rintro _ _ ⟨rfl, rfl⟩
  refine wl_pu (y_assign rfl) rfl ?_
  refine wl_nil ?_
  refine at_then ?_
  refine wc_seq ?_
  refine wc_seq ?_
  refine wc_region ?_
  refine wl_pu (y_move rfl) rfl ?_
  refine wl_pu (y_lss rfl rfl) rfl ?_
  refine wl_pu (y_move rfl) rfl ?_
  -- at: guard 2
  refine wl_splitD 17 rfl (fun hc => absurd hc ((by omega))) (fun _ => ?_)
  refine wl_gon rfl rfl ?_
  refine wl_pu (y_move rfl) rfl ?_
  refine wl_gon rfl rfl ?_
  refine wl_pu (y_lss rfl rfl) rfl ?_
  first | refine wl_pu (y_pickT rfl rfl) rfl ?_ | refine wl_pu (y_pickF rfl rfl) rfl ?_
  refine wl_pu (y_move rfl) rfl ?_
  -- at: guard 6
  refine wl_splitD 21 rfl (fun hc => absurd hc ((by omega))) (fun _ => ?_)
  refine wl_gon rfl rfl ?_
  refine wl_pu (y_move rfl) rfl ?_
  refine wl_gon rfl rfl ?_
  refine wl_pu (y_move rfl) rfl ?_
  refine wl_gon rfl rfl ?_
  refine wl_pu (y_geq rfl rfl) rfl ?_
  first | refine wl_pu (y_pickT rfl rfl) rfl ?_ | refine wl_pu (y_pickF rfl rfl) rfl ?_
  refine wl_pu (y_move rfl) rfl ?_
  -- at: guard 11
  refine wl_splitD 26 rfl (fun hc => absurd hc ((by omega))) (fun _ => ?_)
  refine wl_gon rfl rfl ?_
  refine wl_pu (y_move rfl) rfl ?_
  refine wl_gon rfl rfl ?_
  refine wl_pu (y_move rfl) rfl ?_
  refine wl_gon rfl rfl ?_
  refine wl_pu (y_move rfl) rfl ?_
  refine wl_gon rfl rfl ?_
  refine wl_pu (y_sub rfl rfl (by omega)) rfl ?_
  refine wl_gon rfl rfl ?_
  refine wl_pu (y_gtr rfl rfl) rfl ?_
  first | refine wl_pu (y_pickT rfl rfl) rfl ?_ | refine wl_pu (y_pickF rfl rfl) rfl ?_
  refine wl_nil ?_
  refine at_then ?_
  -- at: cond
  refine wc_condD rfl (fun hc => absurd hc ((by omega))) (fun _ => ?_)
  refine wc_skip ?_
  refine at_then ?_
  refine wc_seq ?_
  refine wc_region ?_
  refine wl_pu (y_assign rfl) rfl ?_
  refine wl_nil ?_
  refine at_then ?_
  refine wc_seq ?_
  refine wc_seq ?_
  refine wc_region ?_
  refine wl_pu (y_move rfl) rfl ?_
  refine wl_pu (y_assign rfl) rfl ?_
  refine wl_nil ?_
  refine at_then ?_
  refine wc_block ?_
  -- at: loop
  refine wc_loop (σ := Nat × Value × List Int × Hp) (fun s => (s.1 : Int) ≤ m ∧ s.2.2.1.length = s.1 ∧ (∀ y ∈ s.2.2.1, ∃ i, a ≤ i ∧ i < a + m ∧ y = atR n i) ∧ SlF 3 1 s.2.1 s.1 (s.2.2.1.map int) s.2.2.2) (fun s => m.toNat - s.1)
    (fun s => [(1, int a), (2, int m), (3, ptr bNEW 0), (8, s.2.1), (9, int (a + s.1))]) (fun s => (bNEW, row 72 (geo lv n rw)) :: (s.2.2.2 ++ F)) (0, .slice none 0 0, [], []) ⟨by show ((0 : Nat) : Int) ≤ m; omega, rfl, by simp, .nil⟩ ⟨rfl, rfl, rfl, rfl, by show some _ = some _; simp, trivial⟩ rfl ?_
  rintro ⟨d, v, ys, fr⟩ ⟨hd, hyl, hy, hS⟩
  simp only [] at hd hyl hy hS
  show WC _ _ _ _ [(1, int a), (2, int m), (3, ptr bNEW 0), (8, v), (9, int (a + d))] ((bNEW, row 72 (geo lv n rw)) :: (fr ++ F))
  refine wc_seq ?_
  refine wc_seq ?_
  refine wc_region ?_
  refine wl_pu (y_move rfl) rfl ?_
  refine wl_pu (y_move rfl) rfl ?_
  refine wl_pu (y_move rfl) rfl ?_
  refine wl_pu (y_add rfl rfl (by omega)) rfl ?_
  refine wl_pu (y_lss rfl rfl) rfl ?_
  refine wl_nil ?_
  refine at_then ?_
  -- at: cond
  refine wc_condD rfl (fun hdn => ?_) (fun hdn => ?_)
  · skip
    refine wc_skip ?_
    refine at_then ?_
    refine wc_seq ?_
    refine wc_block ?_
    refine wc_seq ?_
    refine wc_region ?_
    refine wl_rd (y_loadAgg (k := 3) (vs := geo lv n rw) 0 rfl rfl rfl rfl (by kernel_rfl) (by kernel_rfl)) rfl ?_
    refine wl_pu (y_move rfl) rfl ?_
    -- at: op (call {callee:(value (func 42)), args:[t42, t43], argTypes:[72, 3]})
    refine wl_do (d_call (by kernel_rfl) rfl (at_spec _ h (a + d) (by omega))) rfl ?_
    rintro _ _ ⟨rfl, rfl⟩
    refine wl_pu (y_move rfl) rfl ?_
    refine wl_pu (y_extract rfl rfl) rfl ?_
    refine wl_pu (y_extract rfl rfl) rfl ?_
    refine wl_pu (y_extract rfl rfl) rfl ?_
    refine wl_pu (y_assign rfl) rfl ?_
    refine wl_pu (y_assign rfl) rfl ?_
    refine wl_pu (y_assign rfl) rfl ?_
    refine wl_nil ?_
    refine at_then ?_
    refine wc_region ?_
    refine wl_pu (y_move rfl) rfl ?_
    refine wl_pu (y_move rfl) rfl ?_
    -- at: op (buildSlice 74 1 [(0, t49)])
    refine wl_do (d_buildSlice [int (atR n (a + d))] Try.underlying74 rfl (built1 rfl)) rfl ?_
    rintro _ _ ⟨b1, rfl, rfl⟩
    refine wl_perm (L' := fr ++ ((b1, row 3 [int (atR n (a + d))]) :: (bNEW, row 72 (geo lv n rw)) :: F)) ((List.Perm.cons _ perm_mid.symm).trans perm_mid.symm) ?_
    refine wl_do (d_append (sz := 1) (bytes := 8) (L0 := (b1, row 3 [int (atR n (a + d))]) :: (bNEW, row 72 (geo lv n rw)) :: F) 0 (int 0) Try.underlying74 (by kernel_rfl) rfl rfl rfl hS rfl rfl (news := [int (atR n (a + d))]) rfl rfl rfl (by omega) (by omega)) rfl ?_
    rintro v' _ ⟨fr', hS', rfl⟩
    refine wl_perm (L' := (b1, row 3 [int (atR n (a + d))]) :: (bNEW, row 72 (geo lv n rw)) :: (fr' ++ F)) (perm_mid.trans (List.Perm.cons _ perm_mid)) ?_
    refine wl_drop ?_
    refine wl_pu (y_assign rfl) rfl ?_
    refine wl_nil ?_
    refine at_block_normal ?_
    refine at_then ?_
    refine wc_region ?_
    refine wl_pu (y_move rfl) rfl ?_
    refine wl_pu (y_add rfl rfl (by omega)) rfl ?_
    refine wl_pu (y_assign rfl) rfl ?_
    refine wl_nil ?_
    -- at: round
    refine at_again (d + 1, v', ys ++ [atR n (a + d)], fr') ⟨by show ((d + 1 : Nat) : Int) ≤ m; omega, by show (ys ++ _).length = d + 1; simp [hyl], ?_, by simpa using hS'⟩ (by show m.toNat - (d + 1) < m.toNat - d; omega) ⟨rfl, rfl, rfl, rfl, by show some _ = some _; congr 2; omega, trivial⟩ rfl
    intro y hy'
    rcases List.mem_append.1 hy' with hy' | hy'
    · exact hy y hy'
    · simp only [List.mem_singleton] at hy'
      exact ⟨a + d, by omega, by omega, hy'⟩
  · skip
    subst hyl
    refine wc_exit ?_
    refine at_then_exit ?_
    refine at_then_exit ?_
    refine at_block_same ?_
    refine at_then ?_
    refine wc_seq ?_
    refine wc_region ?_
    refine wl_pu (y_move rfl) rfl ?_
    -- at: op (call {callee:(value (func 91)), args:[t52], argTypes:[74]})
    refine wl_perm (L' := fr ++ ((bNEW, row 72 (geo lv n rw)) :: F)) perm_mid.symm ?_
    refine wl_do (d_call (by kernel_rfl) rfl (sortI_spec _ hS (by omega))) rfl ?_
    rintro _ _ ⟨zs, fr', hp, hw, hS', rfl⟩
    refine wl_nil ?_
    refine at_then ?_
    refine wc_seq ?_
    refine wc_region ?_
    refine wl_pu (y_move rfl) rfl ?_
    -- at: op (call {callee:(value (func 92)), args:[t54], argTypes:[74]})
    refine wl_do (d_call (by kernel_rfl) rfl (compact_spec _ hS' (by have := hp.length_eq; omega))) rfl ?_
    rintro u _ ⟨us, fr2, hin, hS2, hl2, rfl⟩
    refine wl_pu (y_assign rfl) rfl ?_
    refine wl_nil ?_
    refine at_then ?_
    refine wc_ret ?_
    -- at: ret
    refine at_perm perm_mid ?_
    refine at_drop ?_
    refine at_ret1 rfl rfl ?_
    have := hp.length_eq
    exact ⟨us, fr2, fun y hy' => hy y (hp.mem_iff.1 (hin y hy')), by omega, hS2, rfl⟩
end
end Go.Proofs.Ytkpndnjhfocheaa
