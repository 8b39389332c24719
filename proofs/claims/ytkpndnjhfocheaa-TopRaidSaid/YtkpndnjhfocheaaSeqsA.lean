/- Sorting a row of whole numbers in place: what slices.Sort comes to, for at most twelve. -/
import Derived.Test.YtkpndnjhfocheaaChecked
import Derived.Test.YtkpndnjhfocheaaSLn
namespace Go.Proofs.Ytkpndnjhfocheaa
open Go.SL
variable {X : Inhabited SL.Outside}

theorem ixTab {l : List UInt8} {j : Int} (h : 0 ≤ j ∧ j < 256) (hl : Nat.ble 256 l.length = true) : 0 ≤ j ∧ j < l.length := by
  have := Nat.le_of_ble_eq_true hl
  omega

theorem bits64_spec (L : Hp) (x : Int) (h : 0 ≤ x ∧ x < 256) : Ctr Try.prog 168 [.int .u64 x] L (fun v L' => (∃ r : Int, v = int r) ∧ L' = L) := by
  refine spec_body Try.func168 Try.ntmps168 rfl rfl ?_
  refine wc_seq ?_
  refine wc_region ?_
  refine wl_pu (y_assign rfl) rfl ?_
  refine wl_nil ?_
  refine at_then ?_
  refine wc_seq ?_
  refine wc_seq ?_
  refine wc_region ?_
  refine wl_pu (y_move rfl) rfl ?_
  refine wl_pu (y_geq rfl rfl) rfl ?_
  refine wl_nil ?_
  refine at_then ?_
  -- at: cond
  refine wc_condD rfl (fun hc => absurd hc ((by omega))) (fun _ => ?_)
  refine wc_skip ?_
  refine at_then ?_
  refine wc_seq ?_
  refine wc_seq ?_
  refine wc_region ?_
  refine wl_pu (y_move rfl) rfl ?_
  refine wl_pu (y_geq rfl rfl) rfl ?_
  refine wl_nil ?_
  refine at_then ?_
  -- at: cond
  refine wc_condD rfl (fun hc => absurd hc ((by omega))) (fun _ => ?_)
  refine wc_skip ?_
  refine at_then ?_
  refine wc_seq ?_
  refine wc_seq ?_
  refine wc_region ?_
  refine wl_pu (y_move rfl) rfl ?_
  refine wl_pu (y_geq rfl rfl) rfl ?_
  refine wl_nil ?_
  refine at_then ?_
  -- at: cond
  refine wc_condD rfl (fun hc => absurd hc ((by omega))) (fun _ => ?_)
  refine wc_skip ?_
  refine at_then ?_
  refine wc_seq ?_
  refine wc_region ?_
  refine wl_pu (y_move rfl) rfl ?_
  refine wl_pu (y_move rfl) rfl ?_
  first | refine wl_pu (y_conv Try.underlying110 Try.underlying5 rfl (IntWalk.u8_in _ (by omega))) rfl ?_ | refine wl_pu (y_conv Try.underlying110 Try.underlying5 rfl rfl) rfl ?_
  refine wl_pu (y_ixS Try.underlying9 rfl rfl (ixTab (by omega) (by kernel_rfl))) rfl ?_
  generalize hv : at8 _ x = v8
  have h8 : 0 ≤ v8 ∧ v8 < 256 := by rw [← hv]; exact ⟨at8_lo _ _, at8_hi _ _⟩
  first | refine wl_pu (y_conv Try.underlying5 Try.underlying3 rfl (IntWalk.i64_in _ (by omega))) rfl ?_ | refine wl_pu (y_conv Try.underlying5 Try.underlying3 rfl rfl) rfl ?_
  refine wl_pu (y_add rfl rfl (by omega)) rfl ?_
  refine wl_pu (y_assign rfl) rfl ?_
  refine wl_nil ?_
  refine at_then ?_
  refine wc_ret ?_
  -- at: ret
  refine at_ret1 rfl rfl ?_
  exact ⟨⟨_, rfl⟩, rfl⟩

theorem bits_spec (L : Hp) (x : Int) (h : 0 ≤ x ∧ x < 256) : Ctr Try.prog 116 [.int .u64 x] L (fun v L' => (∃ r : Int, v = int r) ∧ L' = L) := by
  refine spec_body Try.func116 Try.ntmps116 rfl rfl ?_
  refine wc_seq ?_
  refine wc_region ?_
  refine wl_pu (y_assign rfl) rfl ?_
  refine wl_nil ?_
  refine at_then ?_
  refine wc_seq ?_
  -- at: cond
  refine wc_condF rfl ?_
  refine wc_skip ?_
  refine at_then ?_
  refine wc_seq ?_
  refine wc_region ?_
  refine wl_pu (y_move rfl) rfl ?_
  -- at: op (call {callee:(value (func 168)), args:[t6], argTypes:[110]})
  refine wl_do (d_call (by kernel_rfl) rfl (bits64_spec _ _ h)) rfl ?_
  rintro _ _ ⟨⟨r, rfl⟩, rfl⟩
  refine wl_pu (y_assign rfl) rfl ?_
  refine wl_nil ?_
  refine at_then ?_
  refine wc_ret ?_
  -- at: ret
  refine at_ret1 rfl rfl ?_
  exact ⟨⟨_, rfl⟩, rfl⟩

theorem nan_spec (L : Hp) (x : Int) : Ctr Try.prog 117 [int x] L (fun v L' => v = .bool false ∧ L' = L) := by
  refine spec_body Try.func117 Try.ntmps117 rfl rfl ?_
  refine wc_seq ?_
  refine wc_region ?_
  refine wl_pu (y_assign rfl) rfl ?_
  refine wl_nil ?_
  refine at_then ?_
  refine wc_seq ?_
  refine wc_region ?_
  refine wl_pu (y_move rfl) rfl ?_
  refine wl_pu (y_move rfl) rfl ?_
  refine wl_pu (y_neq rfl rfl) rfl ?_
  refine wl_pu (y_assign rfl) rfl ?_
  refine wl_nil ?_
  refine at_then ?_
  refine wc_ret ?_
  -- at: ret
  refine at_ret1 rfl rfl ?_
  exact ⟨by simp, rfl⟩
theorem less_spec (L : Hp) (x y : Int) : Ctr Try.prog 180 [int x, int y] L (fun v L' => v = .bool (decide (x < y)) ∧ L' = L) := by
  refine spec_body Try.func180 Try.ntmps180 rfl rfl ?_
  refine wc_seq ?_
  refine wc_region ?_
  refine wl_pu (y_assign rfl) rfl ?_
  refine wl_nil ?_
  refine at_then ?_
  refine wc_seq ?_
  refine wc_region ?_
  refine wl_pu (y_move rfl) rfl ?_
  -- at: op (call {callee:(value (func 117)), args:[t5], argTypes:[3]})
  refine wl_do (d_call (by kernel_rfl) rfl (nan_spec _ _)) rfl ?_
  rintro _ _ ⟨rfl, rfl⟩
  refine wl_pu (y_move rfl) rfl ?_
  -- at: guard 2
  refine wl_goff rfl rfl rfl rfl ?_
  refine wl_goff rfl rfl rfl rfl ?_
  refine wl_goff rfl rfl rfl rfl ?_
  first | refine wl_pu (y_pickT rfl rfl) rfl ?_ | refine wl_pu (y_pickF rfl rfl) rfl ?_
  refine wl_pu (y_move rfl) rfl ?_
  -- at: guard 7
  refine wl_gon rfl rfl ?_
  refine wl_pu (y_move rfl) rfl ?_
  refine wl_gon rfl rfl ?_
  refine wl_pu (y_move rfl) rfl ?_
  refine wl_gon rfl rfl ?_
  refine wl_pu (y_lss rfl rfl) rfl ?_
  first | refine wl_pu (y_pickT rfl rfl) rfl ?_ | refine wl_pu (y_pickF rfl rfl) rfl ?_
  refine wl_pu (y_assign rfl) rfl ?_
  refine wl_nil ?_
  refine at_then ?_
  refine wc_ret ?_
  -- at: ret
  refine at_ret1 rfl rfl ?_
  exact ⟨rfl, rfl⟩

/-- A row in which x lies between pre and tl. -/
def ir (pre : List Int) (x : Int) (tl : List Int) (sp : List Value) : List Value := pre.map int ++ int x :: (tl.map int ++ sp)
theorem ir_eq (pre : List Int) (x : Int) (tl : List Int) (sp : List Value) : ir pre x tl sp = (pre ++ x :: tl).map int ++ sp := by simp [ir]
theorem ir_at (pre : List Int) (x : Int) (tl : List Int) (sp : List Value) : nth (ir pre x tl sp) pre.length = some (int x) := by
  rw [nth_eq, ir, List.getElem?_append_right (by simp)]; simp
theorem ir_mv (pre : List Int) (y x : Int) (tl : List Int) (sp : List Value) : ir (pre ++ [y]) x tl sp = ir pre y (x :: tl) sp := by simp [ir]
theorem ir_set (pre : List Int) (y : Int) (tl : List Int) (sp : List Value) (z : Int) : (ir pre y tl sp).set pre.length (int z) = ir pre z tl sp := by
  rw [ir, List.set_append_right _ _ (by simp)]; simp [ir]
theorem ir_len (pre : List Int) (x : Int) (tl : List Int) (sp : List Value) : (ir pre x tl sp).length = pre.length + (tl.length + sp.length) + 1 := by simp [ir]; omega

theorem blt_ir {k : Nat} {pre : List Int} {x : Int} {tl : List Int} {sp : List Value} (h : k < pre.length + 1 + tl.length) : Nat.blt k (ir pre x tl sp).length = true := by
  rw [ir_len]; exact Nat.ble_eq_true_of_le (by omega)
theorem sorted_in {pre mid : List Int} {x : Int} (h : (pre ++ mid).Pairwise (· ≤ ·)) (hm : ∀ m ∈ mid, x ≤ m) (hl : ∀ p ∈ pre, p ≤ x) : (pre ++ x :: mid).Pairwise (· ≤ ·) := by
  rw [List.pairwise_append] at h ⊢
  refine ⟨h.1, List.pairwise_cons.2 ⟨hm, h.2.1⟩, fun a ha b hb => ?_⟩
  rcases List.mem_cons.1 hb with rfl | hb
  · exact hl a ha
  · exact h.2.2 a ha b hb
theorem sorted_last {pre : List Int} {y x : Int} (h : (pre ++ [y]).Pairwise (· ≤ ·)) (hx : y ≤ x) : ∀ p ∈ pre ++ [y], p ≤ x := by
  intro p hp
  rw [List.pairwise_append] at h
  rcases List.mem_append.1 hp with hp | hp
  · have := h.2.2 p hp y (by simp); omega
  · simp at hp; omega

theorem ins_spec (F : Hp) (b cap : Nat) (xs : List Int) (sp : List Value) (hn : xs.length ≤ 1000000) :
    Ctr Try.prog 174 [sl b 0 xs.length cap, int 0, int xs.length] ((b, row 3 (xs.map int ++ sp)) :: F) (fun _ L' => ∃ ys : List Int, ys.Perm xs ∧ ys.Pairwise (· ≤ ·) ∧ L' = (b, row 3 (ys.map int ++ sp)) :: F) := by
  refine spec_body Try.func174 Try.ntmps174 rfl rfl ?_
  refine wc_seq ?_
  refine wc_region ?_
  refine wl_pu (y_move rfl) rfl ?_
  refine wl_pu (y_add rfl rfl (by omega)) rfl ?_
  refine wl_pu (y_assign rfl) rfl ?_
  refine wl_nil ?_
  refine at_then ?_
  refine wc_block ?_
  -- at: loop
  refine wc_loop (σ := List Int × Nat) (fun s => s.1.Perm xs ∧ 1 ≤ s.2 ∧ (s.1.take s.2).Pairwise (· ≤ ·)) (fun s => xs.length + 1 - s.2) (fun s => [(0, sl b 0 xs.length cap), (1, int 0), (2, int xs.length), (6, int (s.2 : Int))])
    (fun s => (b, row 3 (s.1.map int ++ sp)) :: F) (xs, 1) ⟨List.Perm.refl _, by simp, by cases xs <;> simp⟩ ⟨rfl, rfl, rfl, rfl, trivial⟩ rfl ?_
  rintro ⟨ys, i⟩ ⟨hp, h1, hs⟩
  simp only [] at hp h1 hs
  have hlen : ys.length = xs.length := hp.length_eq
  show WC _ _ _ _ [(0, sl b 0 xs.length cap), (1, int 0), (2, int xs.length), (6, int (i : Int))] ((b, row 3 (ys.map int ++ sp)) :: F)
  refine wc_seq ?_
  refine wc_seq ?_
  refine wc_region ?_
  refine wl_pu (y_move rfl) rfl ?_
  refine wl_pu (y_move rfl) rfl ?_
  refine wl_pu (y_lss rfl rfl) rfl ?_
  refine wl_nil ?_
  refine at_then ?_
  -- at: cond
  refine wc_condD rfl (fun hi => ?_) (fun hi => ?_)
  · skip
    have hi' : i < ys.length := by omega
    obtain ⟨rest, hrest⟩ : ∃ r, ys.drop (i + 1) = r := ⟨_, rfl⟩
    obtain ⟨x, hx⟩ : ∃ x, ys[i] = x := ⟨_, rfl⟩
    obtain ⟨pre0, hpre⟩ : ∃ p, ys.take i = p := ⟨_, rfl⟩
    have hys : ys = pre0 ++ x :: rest := by rw [← hpre, ← hrest, ← hx, ← List.drop_eq_getElem_cons hi', List.take_append_drop]
    have hpl : pre0.length = i := by rw [← hpre]; simp; omega
    rw [hpre] at hs
    have hrl : i + 1 + rest.length = xs.length := by rw [← hlen, hys]; simp; omega
    refine wc_skip ?_
    refine at_then ?_
    refine wc_seq ?_
    refine wc_block ?_
    refine wc_seq ?_
    refine wc_region ?_
    refine wl_pu (y_move rfl) rfl ?_
    refine wl_pu (y_assign rfl) rfl ?_
    refine wl_nil ?_
    refine at_then ?_
    refine wc_block ?_
    -- at: loop
    refine wc_loop (σ := List Int × List Int) (fun s => s.1 ++ s.2 = pre0 ∧ ∀ m ∈ s.2, x ≤ m) (fun s => s.1.length) (fun s => [(0, sl b 0 xs.length cap), (1, int 0), (2, int xs.length), (6, int (i : Int)), (7, int (s.1.length : Int))])
      (fun s => (b, row 3 (ir s.1 x (s.2 ++ rest) sp)) :: F) (pre0, []) ⟨by simp, by simp⟩ ⟨rfl, rfl, rfl, rfl, by simp [SL.lk, hpl], trivial⟩ (by rw [ir_eq, hys]; simp) ?_
    rintro ⟨pre, mid⟩ ⟨hpm, hm⟩
    simp only [] at hpm hm
    show WC _ _ _ _ [(0, sl b 0 xs.length cap), (1, int 0), (2, int xs.length), (6, int (i : Int)), (7, int (pre.length : Int))] ((b, row 3 (ir pre x (mid ++ rest) sp)) :: F)
    have hil : pre.length + mid.length = i := by rw [← hpl, ← hpm]; simp
    have done : (∀ p ∈ pre, p ≤ x) → (pre ++ x :: (mid ++ rest)).Perm xs ∧ ((pre ++ x :: (mid ++ rest)).take (i + 1)).Pairwise (· ≤ ·) := by
      intro hq
      refine ⟨List.Perm.trans ?_ hp, ?_⟩
      · rw [hys, ← hpm, List.append_assoc]
        refine List.Perm.append_left pre ?_
        exact List.perm_middle.symm
      · have e : pre ++ x :: (mid ++ rest) = (pre ++ x :: mid) ++ rest := by simp
        rw [e, List.take_append_of_le_length (by simp; omega), List.take_of_length_le (by simp; omega)]
        exact sorted_in (hpm ▸ hs) hm hq
    rcases List.eq_nil_or_concat pre with hnil | ⟨pre', y, hcat⟩
    · subst hnil
      refine wc_seq ?_
      refine wc_seq ?_
      -- at: draw
      apply wc_draw 15 (pl := [_, _, _, _, _, _, _, _, _, _, _, _, _, _, _]) (by kernel_rfl)
      rotate_left
      refine hw_pu (y_move rfl) ?_
      refine hw_pu (y_move rfl) ?_
      refine hw_pu (y_gtr rfl rfl) ?_
      refine hw_pu (y_move rfl) ?_
      -- at: hw guard 3
      refine hw_isF 19 rfl ((by simp)) ?_
      refine hw_goff rfl rfl rfl ?_
      refine hw_goff rfl rfl rfl ?_
      refine hw_goff rfl rfl rfl ?_
      refine hw_goff rfl rfl rfl ?_
      refine hw_goff rfl rfl rfl ?_
      refine hw_goff rfl rfl rfl ?_
      refine hw_goff rfl rfl rfl ?_
      refine hw_goff rfl rfl rfl ?_
      refine hw_goff rfl rfl rfl ?_
      refine hw_goff rfl rfl rfl ?_
      first | refine hw_pu (y_pickT rfl rfl) ?_ | refine hw_pu (y_pickF rfl rfl) ?_
      refine hw_end [] rfl ?_
      case hB => kernel_rfl
      refine wl_nil ?_
      refine at_nq ?_
      refine at_then ?_
      -- at: cond
      refine wc_condF rfl ?_
      refine wc_exit ?_
      refine at_then_exit ?_
      refine at_then_exit ?_
      refine at_block_same ?_
      refine at_block_normal ?_
      refine at_then ?_
      refine wc_region ?_
      refine wl_pu (y_move rfl) rfl ?_
      refine wl_pu (y_add rfl rfl (by omega)) rfl ?_
      refine wl_pu (y_assign rfl) rfl ?_
      refine wl_nil ?_
      -- at: round
      obtain ⟨hq1, hq2⟩ := done (by simp)
      exact at_again ([] ++ x :: (mid ++ rest), i + 1) ⟨hq1, by omega, hq2⟩ (by show _ - _ < _ - _; omega) ⟨rfl, rfl, rfl, rfl, trivial⟩ (by rw [ir_eq])
    · rw [List.concat_eq_append] at hcat
      subst hcat
      have hl1 : (pre' ++ [y]).length = pre'.length + 1 := by simp
      have hil2 := hil
      rw [hl1] at hil2 ⊢
      rw [ir_mv]
      refine wc_seq ?_
      refine wc_seq ?_
      -- at: draw
      apply wc_draw 15 (pl := [_, _, _, _, _, _, _, _, _, _, _, _, _, _, _]) (by kernel_rfl)
      rotate_left
      refine hw_pu (y_move rfl) ?_
      refine hw_pu (y_move rfl) ?_
      refine hw_pu (y_gtr rfl rfl) ?_
      refine hw_pu (y_move rfl) ?_
      -- at: hw guard 3
      refine hw_isT 19 rfl ((by omega)) ?_
      refine hw_gonL rfl rfl ?_
      refine hw_pu (y_move rfl) ?_
      refine hw_gonL rfl rfl ?_
      refine hw_pu (y_move rfl) ?_
      refine hw_gonL rfl rfl ?_
      first | refine hw_pu (y_ix1 Try.underlying74 (by kernel_rfl) rfl rfl (by omega)) ?_ | refine hw_pu (y_ix 1 Try.underlying74 (by kernel_rfl) rfl rfl (by omega)) ?_
      refine hw_gonL rfl rfl ?_
      refine hw_rd (y_load 0 rfl rfl (v := int x) (by rw [Int.toNat_natCast, ← ir_mv, ← hl1]; exact ir_at _ _ _ _) (by kernel_rfl)) ?_
      refine hw_gonL rfl rfl ?_
      refine hw_pu (y_move rfl) ?_
      refine hw_gonL rfl rfl ?_
      refine hw_pu (y_move rfl) ?_
      refine hw_gonL rfl rfl ?_
      refine hw_pu (y_sub rfl rfl (by omega)) ?_
      refine hw_gonL rfl rfl ?_
      first | refine hw_pu (y_ix1 Try.underlying74 (by kernel_rfl) rfl rfl (by omega)) ?_ | refine hw_pu (y_ix 1 Try.underlying74 (by kernel_rfl) rfl rfl (by omega)) ?_
      refine hw_gonL rfl rfl ?_
      refine hw_rd (y_load 0 rfl rfl (v := int y) (by rw [show ((((pre'.length + 1 : Nat) : Int) - 1).toNat) = pre'.length by omega]; exact ir_at _ _ _ _) (by kernel_rfl)) ?_
      refine hw_gonL rfl rfl ?_
      -- at: hw op (call {callee:(value (func 180)), args:[t23, t28], argTypes:[3, 3]})
      refine hw_call (by kernel_rfl) rfl ((fun F' => less_spec _ x y)) ?_
      first | refine hw_pu (y_pickT rfl rfl) ?_ | refine hw_pu (y_pickF rfl rfl) ?_
      refine hw_end [] rfl ?_
      case hB => kernel_rfl
      refine wl_nil ?_
      refine at_nq ?_
      refine at_then ?_
      -- at: cond
      refine wc_condD rfl (fun hlt => ?_) (fun hlt => ?_)
      · skip
        refine wc_skip ?_
        refine at_then ?_
        refine wc_seq ?_
        refine wc_block ?_
        -- at: draw
        apply wc_draw 15 (pl := [_, _, _, _, _, _, _, _, _, _, _, _, _, _, _]) (by kernel_rfl)
        rotate_left
        refine hw_pu (y_move rfl) ?_
        refine hw_pu (y_move rfl) ?_
        refine hw_pu (y_move rfl) ?_
        refine hw_pu (y_move rfl) ?_
        refine hw_pu (y_sub rfl rfl (by omega)) ?_
        refine hw_pu (y_move rfl) ?_
        refine hw_pu (y_move rfl) ?_
        refine hw_pu (y_sub rfl rfl (by omega)) ?_
        first | refine hw_pu (y_ix1 Try.underlying74 (by kernel_rfl) rfl rfl (by omega)) ?_ | refine hw_pu (y_ix 1 Try.underlying74 (by kernel_rfl) rfl rfl (by omega)) ?_
        refine hw_rd (y_load 0 rfl rfl (v := int y) (by rw [show ((((pre'.length + 1 : Nat) : Int) - 1).toNat) = pre'.length by omega]; exact ir_at _ _ _ _) (by kernel_rfl)) ?_
        refine hw_pu (y_move rfl) ?_
        refine hw_pu (y_move rfl) ?_
        first | refine hw_pu (y_ix1 Try.underlying74 (by kernel_rfl) rfl rfl (by omega)) ?_ | refine hw_pu (y_ix 1 Try.underlying74 (by kernel_rfl) rfl rfl (by omega)) ?_
        refine hw_rd (y_load 0 rfl rfl (v := int x) (by rw [Int.toNat_natCast, ← ir_mv, ← hl1]; exact ir_at _ _ _ _) (by kernel_rfl)) ?_
        first | refine hw_pu (y_ix1 Try.underlying74 (by kernel_rfl) rfl rfl (by omega)) ?_ | refine hw_pu (y_ix 1 Try.underlying74 (by kernel_rfl) rfl rfl (by omega)) ?_
        refine hw_end3 rfl ?_
        case hB => kernel_rfl
        refine wl_do0 (d_store 0 rfl rfl rfl (blt_ir (by simp)) rfl (by kernel_rfl)) (fun _ _ hL => ?_)
        subst hL
        refine wl_heap ((b, row 3 (ir (pre' ++ [y]) y (mid ++ rest) sp)) :: F) (by simp only [setAt, Int.toNat_natCast]; rw [← ir_mv, ← hl1, ir_set]) ?_
        rw [ir_mv]
        first | refine wl_pu (y_ix1 Try.underlying74 (by kernel_rfl) rfl rfl (by omega)) rfl ?_ | refine wl_pu (y_ix 1 Try.underlying74 (by kernel_rfl) rfl rfl (by omega)) rfl ?_
        refine wl_do0 (d_store 0 rfl rfl rfl (blt_ir (by omega)) rfl (by kernel_rfl)) (fun _ _ hL => ?_)
        subst hL
        refine wl_heap ((b, row 3 (ir pre' x (y :: mid ++ rest) sp)) :: F) (by simp only [setAt]; rw [show ((((pre'.length + 1 : Nat) : Int) - 1).toNat) = pre'.length by omega, ir_set]; rfl) ?_
        refine wl_nil ?_
        refine at_nq ?_
        refine at_block_normal ?_
        refine at_then ?_
        refine wc_region ?_
        refine wl_pu (y_move rfl) rfl ?_
        refine wl_pu (y_sub rfl rfl (by omega)) rfl ?_
        refine wl_pu (y_assign rfl) rfl ?_
        refine wl_nil ?_
        -- at: round
        refine at_again (pre', y :: mid) ⟨by rw [← hpm]; simp, fun m hmm => ?_⟩ (by simp) ⟨rfl, rfl, rfl, rfl, by simp only [SL.lk]; congr 2; omega, trivial⟩ rfl
        rcases List.mem_cons.1 hmm with rfl | hmm
        · omega
        · exact hm m hmm
      · skip
        refine wc_exit ?_
        refine at_then_exit ?_
        refine at_then_exit ?_
        refine at_block_same ?_
        refine at_block_normal ?_
        refine at_then ?_
        refine wc_region ?_
        refine wl_pu (y_move rfl) rfl ?_
        refine wl_pu (y_add rfl rfl (by omega)) rfl ?_
        refine wl_pu (y_assign rfl) rfl ?_
        refine wl_nil ?_
        -- at: round
        obtain ⟨hq1, hq2⟩ := done (sorted_last (List.pairwise_append.1 (hpm ▸ hs)).1 (by omega))
        exact at_again ((pre' ++ [y]) ++ x :: (mid ++ rest), i + 1) ⟨hq1, by omega, hq2⟩ (by show _ - _ < _ - _; omega) ⟨rfl, rfl, rfl, rfl, trivial⟩ (by rw [← ir_mv, ir_eq])
  · skip
    refine wc_exit ?_
    refine at_then_exit ?_
    refine at_then_exit ?_
    refine at_block_same ?_
    -- at: end
    refine at_end0 rfl ⟨ys, hp, ?_, rfl⟩
    rwa [List.take_of_length_le (by omega)] at hs
end Go.Proofs.Ytkpndnjhfocheaa
