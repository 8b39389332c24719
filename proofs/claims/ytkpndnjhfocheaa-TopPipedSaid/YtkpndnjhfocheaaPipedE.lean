/- The wheel's Cancel. -/
import Derived.Test.YtkpndnjhfocheaaPipedD
namespace Go.Proofs.Ytkpndnjhfocheaa
open Go.SL
variable {X : Inhabited SL.Outside}

theorem wsame_spec (F : Hp) (cb : Nat) (id due x cid : Int) :
    Ctr Try.prog 67 [.agg ⟨tm id due x⟩, ptr cb 0] ((cb, row 3 [int cid]) :: F) (fun v L' => v = .bool (decide (id = cid)) ∧ L' = (cb, row 3 [int cid]) :: F) := by
  refine spec_body Try.func67 Try.ntmps67 rfl rfl ?_
  refine wc_seq ?_
  refine wc_region ?_
  refine wl_do (d_box rfl) rfl ?_
  rintro _ _ ⟨bNEW, rfl, rfl⟩
  refine wl_pu (y_assign rfl) rfl ?_
  refine wl_nil ?_
  refine at_then ?_
  refine wc_seq ?_
  refine wc_region ?_
  first | refine wl_pu (y_fieldAddr0 0 Try.underlying151 rfl rfl (by kernel_rfl) rfl) rfl ?_ | refine wl_pu (y_fieldAddr 0 Try.underlying151 rfl rfl (by kernel_rfl) rfl) rfl ?_
  first | refine wl_rd (y_load 0 rfl rfl rfl (by kernel_rfl)) rfl ?_ | refine wl_rd (y_load 1 rfl rfl rfl (by kernel_rfl)) rfl ?_ | refine wl_rd (y_load 2 rfl rfl rfl (by kernel_rfl)) rfl ?_ | refine wl_rd (y_load 3 rfl rfl rfl (by kernel_rfl)) rfl ?_ | refine wl_rd (y_load 4 rfl rfl rfl (by kernel_rfl)) rfl ?_ | refine wl_rd (y_load 5 rfl rfl rfl (by kernel_rfl)) rfl ?_
  first | refine wl_rd (y_load 0 rfl rfl rfl (by kernel_rfl)) rfl ?_ | refine wl_rd (y_load 1 rfl rfl rfl (by kernel_rfl)) rfl ?_ | refine wl_rd (y_load 2 rfl rfl rfl (by kernel_rfl)) rfl ?_ | refine wl_rd (y_load 3 rfl rfl rfl (by kernel_rfl)) rfl ?_ | refine wl_rd (y_load 4 rfl rfl rfl (by kernel_rfl)) rfl ?_ | refine wl_rd (y_load 5 rfl rfl rfl (by kernel_rfl)) rfl ?_
  refine wl_pu (y_eql rfl rfl) rfl ?_
  refine wl_pu (y_assign rfl) rfl ?_
  refine wl_nil ?_
  refine at_then ?_
  refine wc_ret ?_
  -- at: ret
  refine at_drop ?_
  refine at_ret1 rfl rfl ?_
  exact ⟨rfl, rfl⟩

abbrev fid (cb : Nat) : Value := .func (.func 67) #[] ⟨[ptr cb 0]⟩
theorem wfind0_spec (L : Hp) (p : Option Addr) (c cb : Nat) : Ctr Try.prog 66 [.slice p 0 c, fid cb] L (fun v L' => v = int (-1) ∧ L' = L) := by
  refine spec_body Try.func66 Try.ntmps66 rfl rfl ?_
  refine wc_seq ?_
  refine wc_region ?_
  refine wl_pu (y_assign rfl) rfl ?_
  refine wl_nil ?_
  refine at_then ?_
  refine wc_seq ?_
  refine wc_seq ?_
  refine wc_region ?_
  refine wl_pu (y_move rfl) rfl ?_
  refine wl_pu (y_lenL Try.underlying144 rfl) rfl ?_
  refine wl_pu (y_move rfl) rfl ?_
  refine wl_nil ?_
  refine at_then ?_
  refine wc_block ?_
  -- at: loop
  refine wc_loop (σ := Unit) (fun _ => True) (fun _ => 0) (fun _ => [(7, int 0), (8, int 0)]) (fun _ => L) () trivial ⟨rfl, rfl, trivial⟩ rfl ?_
  intro _ _
  refine wc_seq ?_
  refine wc_region ?_
  refine wl_pu (y_lss rfl rfl) rfl ?_
  refine wl_nil ?_
  refine at_then ?_
  refine wc_seq ?_
  -- at: cond
  refine wc_condD rfl (fun hc => absurd hc ((by omega))) (fun _ => ?_)
  refine wc_exit ?_
  refine at_then_exit ?_
  refine at_then_exit ?_
  refine at_block_same ?_
  refine at_then ?_
  refine wc_seq ?_
  refine wc_region ?_
  refine wl_pu (y_assign rfl) rfl ?_
  refine wl_nil ?_
  refine at_then ?_
  refine wc_ret ?_
  -- at: ret
  refine at_ret1 rfl rfl ?_
  exact ⟨rfl, rfl⟩

theorem wfind1_spec (F : Hp) (wx : Nat × Obj) (b1 c cb : Nat) (id due x : Int) (sp : List Value) :
    Ctr Try.prog 66 [sl b1 0 1 c, fid cb] ((cb, row 3 [int id]) :: wx :: (b1, row 151 (tm id due x ++ sp)) :: F) (fun v L' => v = int 0 ∧ L' = (cb, row 3 [int id]) :: wx :: (b1, row 151 (tm id due x ++ sp)) :: F) := by
  refine spec_body Try.func66 Try.ntmps66 rfl rfl ?_
  refine wc_seq ?_
  refine wc_region ?_
  refine wl_pu (y_assign rfl) rfl ?_
  refine wl_nil ?_
  refine at_then ?_
  refine wc_seq ?_
  refine wc_seq ?_
  refine wc_region ?_
  refine wl_pu (y_move rfl) rfl ?_
  refine wl_pu (y_lenL Try.underlying144 rfl) rfl ?_
  refine wl_pu (y_move rfl) rfl ?_
  refine wl_nil ?_
  refine at_then ?_
  refine wc_block ?_
  -- at: loop
  refine wc_loop (σ := Unit) (fun _ => True) (fun _ => 0) (fun _ => [(0, sl b1 0 1 c), (1, fid cb), (7, int 1), (8, int 0)]) (fun _ => (cb, row 3 [int id]) :: wx :: (b1, row 151 (tm id due x ++ sp)) :: F) () trivial ⟨rfl, rfl, rfl, rfl, trivial⟩ rfl ?_
  intro _ _
  refine wc_seq ?_
  refine wc_region ?_
  refine wl_pu (y_lss rfl rfl) rfl ?_
  refine wl_nil ?_
  refine at_then ?_
  refine wc_seq ?_
  -- at: cond
  refine wc_condD rfl (fun _ => ?_) (fun hc => absurd ((by omega)) hc)
  refine wc_skip ?_
  refine at_then ?_
  refine wc_seq ?_
  refine wc_block ?_
  refine wc_seq ?_
  refine wc_region ?_
  refine wl_pu (y_move rfl) rfl ?_
  refine wl_pu (y_assign rfl) rfl ?_
  refine wl_nil ?_
  refine at_then ?_
  refine wc_seq ?_
  refine wc_region ?_
  refine wl_pu (y_move rfl) rfl ?_
  refine wl_pu (y_move rfl) rfl ?_
  refine wl_pu (y_move rfl) rfl ?_
  refine wl_pu (y_ix 3 Try.underlying144 (by kernel_rfl) rfl rfl (by omega)) rfl ?_
  refine wl_rd (y_loadAgg (k := 3) (vs := tm id due x) 2 rfl rfl rfl rfl (by kernel_rfl) (by kernel_rfl)) rfl ?_
  refine wl_do (d_callv (by kernel_rfl) rfl rfl (wsame_spec _ _ _ _ _ _)) rfl ?_
  rintro _ _ ⟨rfl, rfl⟩
  refine wl_nil ?_
  refine at_then ?_
  -- at: cond
  refine wc_condD rfl (fun _ => ?_) (fun hc => absurd (rfl) hc)
  refine wc_seq ?_
  refine wc_region ?_
  refine wl_pu (y_move rfl) rfl ?_
  refine wl_pu (y_assign rfl) rfl ?_
  refine wl_nil ?_
  refine at_then ?_
  refine wc_ret ?_
  refine at_block_ret ?_
  refine at_then_ret ?_
  refine at_then_ret ?_
  refine at_block_ret ?_
  refine at_then_ret ?_
  -- at: ret
  refine at_ret1 rfl rfl ?_
  exact ⟨rfl, rfl⟩

theorem wdel_spec (F : Hp) (x0 x1 : Nat × Obj) (b1 c : Nat) (cs : List Value) (hc : 1 ≤ c) (hl : cs.length = c * 3) :
    Ctr Try.prog 68 [sl b1 0 1 c, int 0, int 1] (x0 :: x1 :: (b1, row 151 cs) :: F) (fun v L' => v = sl b1 0 0 c ∧ ∃ cs', L' = x0 :: x1 :: (b1, row 151 cs') :: F) := by
  refine spec_body Try.func68 Try.ntmps68 rfl rfl ?_
  refine wc_seq ?_
  refine wc_region ?_
  refine wl_pu (y_assign rfl) rfl ?_
  refine wl_nil ?_
  refine at_then ?_
  refine wc_seq ?_
  refine wc_region ?_
  refine wl_pu (y_move rfl) rfl ?_
  refine wl_pu (y_move rfl) rfl ?_
  refine wl_pu (y_move rfl) rfl ?_
  refine wl_pu (y_move rfl) rfl ?_
  refine wl_pu (y_lenL Try.underlying144 rfl) rfl ?_
  refine wl_pu (y_subL3 3 Try.underlying144 (by kernel_rfl) rfl rfl rfl rfl (by omega)) rfl ?_
  refine wl_nil ?_
  refine at_then ?_
  refine wc_seq ?_
  refine wc_seq ?_
  refine wc_region ?_
  refine wl_pu (y_move rfl) rfl ?_
  refine wl_pu (y_move rfl) rfl ?_
  refine wl_pu (y_eql rfl rfl) rfl ?_
  refine wl_nil ?_
  refine at_then ?_
  -- at: cond
  refine wc_condD rfl (fun hc => absurd hc ((by omega))) (fun _ => ?_)
  refine wc_skip ?_
  refine at_then ?_
  refine wc_seq ?_
  refine wc_region ?_
  refine wl_pu (y_move rfl) rfl ?_
  refine wl_pu (y_lenL Try.underlying144 rfl) rfl ?_
  refine wl_pu (y_assign rfl) rfl ?_
  refine wl_nil ?_
  refine at_then ?_
  refine wc_seq ?_
  -- at: draw
  apply wc_draw 6 (pl := [_, _, _, _, _, _]) (by kernel_rfl)
  rotate_left
  refine hw_pu (y_move rfl) ?_
  refine hw_pu (y_move rfl) ?_
  refine hw_pu (y_toL 3 Try.underlying144 (by kernel_rfl) rfl rfl (by omega)) ?_
  refine hw_pu (y_move rfl) ?_
  refine hw_pu (y_move rfl) ?_
  refine hw_pu (y_fromL 3 Try.underlying144 (by kernel_rfl) rfl rfl (by omega)) ?_
  refine hw_end2 rfl ?_
  case hB => kernel_rfl
  refine wl_pu (y_app0 (es := 3) Try.underlying144 (by kernel_rfl) rfl rfl (by omega)) rfl ?_
  refine wl_pu (y_assign rfl) rfl ?_
  refine wl_nil ?_
  refine at_nq ?_
  refine at_then ?_
  refine wc_seq ?_
  refine wc_region ?_
  refine wl_pu (y_move rfl) rfl ?_
  refine wl_pu (y_move rfl) rfl ?_
  refine wl_pu (y_lenL Try.underlying144 rfl) rfl ?_
  refine wl_pu (y_move rfl) rfl ?_
  refine wl_pu (y_subL 3 Try.underlying144 (by kernel_rfl) rfl rfl rfl (by omega)) rfl ?_
  refine wl_do0 (d_clearN 2 (z := .agg #[int 0, int 0, .int .u32 0]) (es := 3) Try.underlying144 (zeroB_of (by kernel_rfl)) rfl rfl (by decide) rfl rfl (by split <;> omega)) ?_
  rintro _ _ ⟨cs', hl', rfl⟩
  refine wl_nil ?_
  refine at_then ?_
  refine wc_seq ?_
  refine wc_region ?_
  refine wl_pu (y_move rfl) rfl ?_
  refine wl_pu (y_assign rfl) rfl ?_
  refine wl_nil ?_
  refine at_then ?_
  refine wc_ret ?_
  -- at: ret
  refine at_ret1 rfl rfl ?_
  exact ⟨rfl, cs', rfl⟩

theorem wcancel_spec (F : Hp) (b k b1 c : Nat) (now last id due x : Int) (sp : List Value) (hk : k < 16) (hc : 1 ≤ c) (hs : sp.length + 3 = c * 3) :
    Ctr Try.prog 27 [ptr b 0, int id] ((b, whl (at1 k (some ⟨b1, 0, none⟩) 1 c) now last) :: (b1, row 151 (tm id due x ++ sp)) :: F)
      (fun v L' => v = .bool true ∧ L' = (b, whl (at1 k (some ⟨b1, 0, none⟩) 0 c) now last) :: F) := by
  refine spec_body Try.func27 Try.ntmps27 rfl rfl ?_
  refine wc_seq ?_
  refine wc_region ?_
  refine wl_do (d_box rfl) rfl ?_
  rintro _ _ ⟨bNEW, rfl, rfl⟩
  refine wl_pu (y_assign rfl) rfl ?_
  refine wl_nil ?_
  refine at_then ?_
  refine wc_seq ?_
  refine wc_seq ?_
  refine wc_region ?_
  refine wl_pu (y_move rfl) rfl ?_
  -- at: op (call {callee:(value (func 62)), args:[t8], argTypes:[54]})
  refine wl_perm p1 ?_
  refine wl_do (d_call (by kernel_rfl) rfl (wnone_spec _ _ _ _ _)) rfl ?_
  rintro _ _ ⟨rfl, rfl⟩
  refine wl_nil ?_
  refine at_then ?_
  -- at: cond
  refine wc_condF rfl ?_
  refine wc_skip ?_
  refine at_then ?_
  refine wc_seq ?_
  refine wc_seq ?_
  refine wc_region ?_
  refine wl_pu (y_move rfl) rfl ?_
  refine wl_nil ?_
  refine at_then ?_
  refine wc_block ?_
  -- at: loop
  refine wc_perm p1 ?_
  refine wc_loop (σ := Nat) (fun i => i ≤ k) (fun i => k + 1 - i) (fun i => [(0, ptr b 0), (3, ptr bNEW 0), (10, int (i : Int))])
    (fun _ => (bNEW, row 3 [int id]) :: (b, whl (at1 k (some ⟨b1, 0, none⟩) 1 c) now last) :: (b1, row 151 (tm id due x ++ sp)) :: F) 0 (by omega) ⟨rfl, rfl, rfl, trivial⟩ ?_ ?_
  · rfl
  intro i hi
  refine wc_seq ?_
  refine wc_region ?_
  refine wl_pu (y_lss rfl rfl) rfl ?_
  refine wl_nil ?_
  refine at_then ?_
  refine wc_seq ?_
  -- at: cond
  refine wc_condD rfl (fun _ => ?_) (fun hc => absurd ((by omega)) hc)
  refine wc_skip ?_
  refine at_then ?_
  refine wc_seq ?_
  refine wc_block ?_
  refine wc_seq ?_
  refine wc_region ?_
  refine wl_pu (y_move rfl) rfl ?_
  refine wl_pu (y_assign rfl) rfl ?_
  refine wl_nil ?_
  refine at_then ?_
  refine wc_seq ?_
  refine wc_region ?_
  refine wl_pu (y_move rfl) rfl ?_
  refine wl_pu (y_move rfl) rfl ?_
  refine wl_pu (y_nil rfl) rfl ?_
  first | refine wl_pu (y_fieldAddr0 0 Try.underlying147 rfl rfl (by kernel_rfl) rfl) rfl ?_ | refine wl_pu (y_fieldAddr 0 Try.underlying147 rfl rfl (by kernel_rfl) rfl) rfl ?_
  refine wl_pu (y_ixA 1 Try.underlying145 (by kernel_rfl) rfl rfl (by omega)) rfl ?_
  have hix : 0 + (i : Int).toNat * 1 = i := by omega
  refine wl_pu (y_assign rfl) rfl ?_
  refine wl_nil ?_
  refine at_then ?_
  refine wc_seq ?_
  refine wc_region ?_
  refine wl_pu (y_move rfl) rfl ?_
  refine wl_pu (y_nil rfl) rfl ?_
  by_cases hik : i = k
  · subst hik
    refine wl_rd (y_load 1 rfl rfl (v := sl b1 0 1 c) (by rw [hix]; exact (wrow_nth _ _ _ _ hk).trans (congrArg some (at1_self _ _ _ _))) (by kernel_rfl)) rfl ?_
    refine wl_pu (y_makeFunc1 rfl) rfl ?_
    -- at: op (call {callee:(value (func 66)), args:[t20, t21], argTypes:[144, 153]})
    refine wl_do (d_call (by kernel_rfl) rfl (wfind1_spec _ _ _ _ _ _ _ _ _)) rfl ?_
    rintro _ _ ⟨rfl, rfl⟩
    refine wl_pu (y_assign rfl) rfl ?_
    refine wl_nil ?_
    refine at_then ?_
    refine wc_seq ?_
    refine wc_region ?_
    refine wl_pu (y_move rfl) rfl ?_
    refine wl_pu (y_geq rfl rfl) rfl ?_
    refine wl_nil ?_
    refine at_then ?_
    -- at: cond
    refine wc_condD rfl (fun _ => ?_) (fun hc => absurd ((by omega)) hc)
    refine wc_seq ?_
    refine wc_region ?_
    refine wl_pu (y_move rfl) rfl ?_
    refine wl_pu (y_move rfl) rfl ?_
    refine wl_pu (y_nil rfl) rfl ?_
    refine wl_rd (y_load 1 rfl rfl (v := sl b1 0 1 c) (by rw [hix]; exact (wrow_nth _ _ _ _ hk).trans (congrArg some (at1_self _ _ _ _))) (by kernel_rfl)) rfl ?_
    refine wl_pu (y_move rfl) rfl ?_
    refine wl_pu (y_move rfl) rfl ?_
    refine wl_pu (y_add rfl rfl (by omega)) rfl ?_
    -- at: op (call {callee:(value (func 68)), args:[t28, t29, t31], argTypes:[144, 3, 3]})
    refine wl_do (d_call (by kernel_rfl) rfl (wdel_spec _ _ _ _ _ _ hc (by simp; omega))) rfl ?_
    rintro _ _ ⟨rfl, cs', rfl⟩
    refine wl_pu (y_nil rfl) rfl ?_
    refine wl_do0 (d_store 1 rfl rfl rfl (by rw [wrow_len, hix]; exact blt_of (by omega)) rfl (by kernel_rfl)) (fun _ _ hL => ?_)
    subst hL
    refine wl_heap ((bNEW, row 3 [int id]) :: (b, whl (at1 i (some ⟨b1, 0, none⟩) 0 c) now last) :: (b1, row 151 cs') :: F) ?_ ?_
    · exact congrArg (fun X => (bNEW, row 3 [int id]) :: (b, row 147 X) :: (b1, row 151 cs') :: F) (by rw [hix, wrow_set _ _ _ _ hk]; exact congrArg (fun f => wrow f now last) (at1_set _ _ _ _ _ _ _))
    refine wl_nil ?_
    refine at_then ?_
    refine wc_seq ?_
    refine wc_region ?_
    refine wl_pu (y_assign rfl) rfl ?_
    refine wl_nil ?_
    refine at_then ?_
    refine wc_ret ?_
    refine at_block_ret ?_
    refine at_then_ret ?_
    refine at_then_ret ?_
    refine at_block_ret ?_
    refine at_then_ret ?_
    -- at: ret
    refine at_drop ?_
    refine at_perm p1 ?_
    refine at_drop ?_
    refine at_ret1 rfl rfl ?_
    exact ⟨rfl, rfl⟩
  · skip
    refine wl_rd (y_load 1 rfl rfl (v := .slice none 0 0) (by rw [hix]; exact (wrow_nth _ _ _ _ (by omega)).trans (congrArg some (at1_ne _ _ _ hik))) (by kernel_rfl)) rfl ?_
    refine wl_pu (y_makeFunc1 rfl) rfl ?_
    -- at: op (call {callee:(value (func 66)), args:[t20, t21], argTypes:[144, 153]})
    refine wl_do (d_call (by kernel_rfl) rfl (wfind0_spec _ _ _ _)) rfl ?_
    rintro _ _ ⟨rfl, rfl⟩
    refine wl_pu (y_assign rfl) rfl ?_
    refine wl_nil ?_
    refine at_then ?_
    refine wc_seq ?_
    refine wc_region ?_
    refine wl_pu (y_move rfl) rfl ?_
    refine wl_pu (y_geq rfl rfl) rfl ?_
    refine wl_nil ?_
    refine at_then ?_
    -- at: cond
    refine wc_condD rfl (fun hc => absurd hc ((by omega))) (fun _ => ?_)
    refine wc_skip ?_
    refine at_block_normal ?_
    refine at_then ?_
    refine wc_region ?_
    refine wl_pu (y_add rfl rfl (by omega)) rfl ?_
    refine wl_pu (y_move rfl) rfl ?_
    refine wl_nil ?_
    -- at: round
    exact at_again (i + 1) (by omega) (by omega) ⟨rfl, rfl, rfl, trivial⟩ rfl

theorem wmiss_spec (F : Hp) (b k c : Nat) (p : Option Addr) (now last id : Int) :
    Ctr Try.prog 27 [ptr b 0, int id] ((b, whl (at1 k p 0 c) now last) :: F)
      (fun v L' => v = .bool false ∧ L' = (b, whl (at1 k p 0 c) now last) :: F) := by
  refine spec_body Try.func27 Try.ntmps27 rfl rfl ?_
  refine wc_seq ?_
  refine wc_region ?_
  refine wl_do (d_box rfl) rfl ?_
  rintro _ _ ⟨bNEW, rfl, rfl⟩
  refine wl_pu (y_assign rfl) rfl ?_
  refine wl_nil ?_
  refine at_then ?_
  refine wc_seq ?_
  refine wc_seq ?_
  refine wc_region ?_
  refine wl_pu (y_move rfl) rfl ?_
  -- at: op (call {callee:(value (func 62)), args:[t8], argTypes:[54]})
  refine wl_perm p1 ?_
  refine wl_do (d_call (by kernel_rfl) rfl (wnone_spec _ _ _ _ _)) rfl ?_
  rintro _ _ ⟨rfl, rfl⟩
  refine wl_nil ?_
  refine at_then ?_
  -- at: cond
  refine wc_condF rfl ?_
  refine wc_skip ?_
  refine at_then ?_
  refine wc_seq ?_
  refine wc_seq ?_
  refine wc_region ?_
  refine wl_pu (y_move rfl) rfl ?_
  refine wl_nil ?_
  refine at_then ?_
  refine wc_block ?_
  -- at: loop
  refine wc_perm p1 ?_
  refine wc_loop (σ := Nat) (fun i => i ≤ 16) (fun i => 16 - i) (fun i => [(0, ptr b 0), (3, ptr bNEW 0), (10, int (i : Int))])
    (fun _ => (bNEW, row 3 [int id]) :: (b, whl (at1 k p 0 c) now last) :: F) 0 (by omega) ⟨rfl, rfl, rfl, trivial⟩ ?_ ?_
  · rfl
  intro i hi
  refine wc_seq ?_
  refine wc_region ?_
  refine wl_pu (y_lss rfl rfl) rfl ?_
  refine wl_nil ?_
  refine at_then ?_
  refine wc_seq ?_
  -- at: cond
  refine wc_condD rfl (fun h => ?_) (fun h => ?_)
  · skip
    refine wc_skip ?_
    refine at_then ?_
    refine wc_seq ?_
    refine wc_block ?_
    refine wc_seq ?_
    refine wc_region ?_
    refine wl_pu (y_move rfl) rfl ?_
    refine wl_pu (y_assign rfl) rfl ?_
    refine wl_nil ?_
    refine at_then ?_
    refine wc_seq ?_
    refine wc_region ?_
    refine wl_pu (y_move rfl) rfl ?_
    refine wl_pu (y_move rfl) rfl ?_
    refine wl_pu (y_nil rfl) rfl ?_
    first | refine wl_pu (y_fieldAddr0 0 Try.underlying147 rfl rfl (by kernel_rfl) rfl) rfl ?_ | refine wl_pu (y_fieldAddr 0 Try.underlying147 rfl rfl (by kernel_rfl) rfl) rfl ?_
    refine wl_pu (y_ixA 1 Try.underlying145 (by kernel_rfl) rfl rfl (by omega)) rfl ?_
    have hix : 0 + (i : Int).toNat * 1 = i := by omega
    refine wl_pu (y_assign rfl) rfl ?_
    refine wl_nil ?_
    refine at_then ?_
    refine wc_seq ?_
    refine wc_region ?_
    refine wl_pu (y_move rfl) rfl ?_
    refine wl_pu (y_nil rfl) rfl ?_
    have h0 : at1 k p 0 c i = .slice (if i = k then p else none) 0 (if i = k then c else 0) := by simp [at1]
    refine wl_rd (y_load 1 rfl rfl (v := .slice (if i = k then p else none) 0 (if i = k then c else 0)) (by rw [hix]; exact (wrow_nth _ _ _ _ (by omega)).trans (congrArg some h0)) (by kernel_rfl)) rfl ?_
    refine wl_pu (y_makeFunc1 rfl) rfl ?_
    -- at: op (call {callee:(value (func 66)), args:[t20, t21], argTypes:[144, 153]})
    refine wl_do (d_call (by kernel_rfl) rfl (wfind0_spec _ _ _ _)) rfl ?_
    rintro _ _ ⟨rfl, rfl⟩
    refine wl_pu (y_assign rfl) rfl ?_
    refine wl_nil ?_
    refine at_then ?_
    refine wc_seq ?_
    refine wc_region ?_
    refine wl_pu (y_move rfl) rfl ?_
    refine wl_pu (y_geq rfl rfl) rfl ?_
    refine wl_nil ?_
    refine at_then ?_
    -- at: cond
    refine wc_condD rfl (fun hc => absurd hc ((by omega))) (fun _ => ?_)
    refine wc_skip ?_
    refine at_block_normal ?_
    refine at_then ?_
    refine wc_region ?_
    refine wl_pu (y_add rfl rfl (by omega)) rfl ?_
    refine wl_pu (y_move rfl) rfl ?_
    refine wl_nil ?_
    -- at: round
    exact at_again (i + 1) (by omega) (by omega) ⟨rfl, rfl, rfl, trivial⟩ rfl
  · skip
    refine wc_exit ?_
    refine at_then_exit ?_
    refine at_then_exit ?_
    refine at_block_same ?_
    refine at_then ?_
    refine wc_seq ?_
    refine wc_region ?_
    refine wl_pu (y_assign rfl) rfl ?_
    refine wl_nil ?_
    refine at_then ?_
    refine wc_ret ?_
    -- at: ret
    refine at_drop ?_
    refine at_ret1 rfl rfl ?_
    exact ⟨rfl, rfl⟩
end Go.Proofs.Ytkpndnjhfocheaa
