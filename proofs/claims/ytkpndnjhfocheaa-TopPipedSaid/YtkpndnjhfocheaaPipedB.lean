/- The clock (rto): what each call comes to, with the waits between 2 and 64. -/
import Derived.Test.YtkpndnjhfocheaaChecked
import Derived.Test.YtkpndnjhfocheaaSLg
namespace Go.Proofs.Ytkpndnjhfocheaa
open Go.SL
variable {X : Inhabited SL.Outside}

abbrev cko (mean vary : Int) (m : Bool) (wait : Int) : Obj := row 143 [int 2, int 64, int mean, int vary, .bool m, int wait]
structure CkOk (mean vary wait : Int) : Prop where
  m0 : 0 ≤ mean
  m1 : mean ≤ 8388608
  v0 : 0 ≤ vary
  v1 : vary ≤ 4194304
  w0 : 2 ≤ wait
  w1 : wait ≤ 64

theorem cnew_spec (L : Hp) : Ctr Try.prog 15 [int 4, int 2, int 64] L (fun v L' => ∃ b, v = .tuple #[ptr b 0, int 0] ∧ L' = (b, cko 0 0 false 4) :: L) := by
  refine spec_body Try.func15 Try.ntmps15 rfl rfl ?_
  refine wc_seq ?_
  refine wc_region ?_
  refine wl_pu (y_assign rfl) rfl ?_
  refine wl_pu (y_assign rfl) rfl ?_
  refine wl_nil ?_
  refine at_then ?_
  refine wc_seq ?_
  refine wc_seq ?_
  refine wc_region ?_
  refine wl_pu (y_move rfl) rfl ?_
  refine wl_pu (y_lss rfl rfl) rfl ?_
  refine wl_pu (y_move rfl) rfl ?_
  -- at: guard 2
  refine wl_splitD 10 rfl (fun hc => absurd hc ((by omega))) (fun _ => ?_)
  refine wl_gon rfl rfl ?_
  refine wl_pu (y_move rfl) rfl ?_
  refine wl_gon rfl rfl ?_
  refine wl_pu (y_move rfl) rfl ?_
  refine wl_gon rfl rfl ?_
  refine wl_pu (y_lss rfl rfl) rfl ?_
  first | refine wl_pu (y_pickT rfl rfl) rfl ?_ | refine wl_pu (y_pickF rfl rfl) rfl ?_
  refine wl_pu (y_move rfl) rfl ?_
  -- at: guard 7
  refine wl_splitD 15 rfl (fun hc => absurd hc ((by omega))) (fun _ => ?_)
  refine wl_gon rfl rfl ?_
  refine wl_pu (y_move rfl) rfl ?_
  refine wl_gon rfl rfl ?_
  refine wl_pu (y_move rfl) rfl ?_
  refine wl_gon rfl rfl ?_
  refine wl_pu (y_lss rfl rfl) rfl ?_
  first | refine wl_pu (y_pickT rfl rfl) rfl ?_ | refine wl_pu (y_pickF rfl rfl) rfl ?_
  refine wl_pu (y_move rfl) rfl ?_
  -- at: guard 12
  refine wl_splitD 20 rfl (fun hc => absurd hc ((by omega))) (fun _ => ?_)
  refine wl_gon rfl rfl ?_
  refine wl_pu (y_move rfl) rfl ?_
  refine wl_gon rfl rfl ?_
  refine wl_pu (y_gtr rfl rfl) rfl ?_
  first | refine wl_pu (y_pickT rfl rfl) rfl ?_ | refine wl_pu (y_pickF rfl rfl) rfl ?_
  refine wl_nil ?_
  refine at_then ?_
  -- at: cond
  refine wc_condD rfl (fun hc => absurd hc ((by omega))) (fun _ => ?_)
  refine wc_skip ?_
  refine at_then ?_
  refine wc_seq ?_
  refine wc_region ?_
  refine wl_pu (y_move rfl) rfl ?_
  refine wl_pu (y_move rfl) rfl ?_
  refine wl_pu (y_move rfl) rfl ?_
  -- at: op (build 143 [(0, t24), (1, t25), (5, t26)])
  refine wl_pu (y_build [int 2, int 64, int 0, int 0, .bool false, int 4] rfl (by kernel_rfl)) rfl ?_
  refine wl_do (d_box rfl) rfl ?_
  rintro _ _ ⟨bNEW, rfl, rfl⟩
  refine wl_pu (y_assign rfl) rfl ?_
  refine wl_pu (y_assign rfl) rfl ?_
  refine wl_nil ?_
  refine at_then ?_
  refine wc_ret ?_
  -- at: ret
  refine at_ret2 rfl rfl rfl ?_
  exact ⟨_, rfl, rfl⟩

theorem cnone_spec (F : Hp) (b : Nat) (mean vary : Int) (m : Bool) (wait : Int) :
    Ctr Try.prog 63 [ptr b 0] ((b, cko mean vary m wait) :: F) (fun v L' => v = .bool false ∧ L' = (b, cko mean vary m wait) :: F) := by
  refine spec_body Try.func63 Try.ntmps63 rfl rfl ?_
  refine wc_seq ?_
  refine wc_region ?_
  refine wl_pu (y_assign rfl) rfl ?_
  refine wl_nil ?_
  refine at_then ?_
  refine wc_seq ?_
  refine wc_region ?_
  refine wl_pu (y_move rfl) rfl ?_
  refine wl_pu (y_eqlnil Try.underlying51 rfl rfl) rfl ?_
  refine wl_pu (y_move rfl) rfl ?_
  -- at: guard 2
  refine wl_gon rfl rfl ?_
  refine wl_pu (y_move rfl) rfl ?_
  refine wl_gon rfl rfl ?_
  refine wl_pu (y_nil rfl) rfl ?_
  refine wl_gon rfl rfl ?_
  first | refine wl_pu (y_fieldAddr0 1 Try.underlying143 rfl rfl (by kernel_rfl) rfl) rfl ?_ | refine wl_pu (y_fieldAddr 1 Try.underlying143 rfl rfl (by kernel_rfl) rfl) rfl ?_
  refine wl_gon rfl rfl ?_
  first | refine wl_rd (y_load 0 rfl rfl rfl (by kernel_rfl)) rfl ?_ | refine wl_rd (y_load 1 rfl rfl rfl (by kernel_rfl)) rfl ?_ | refine wl_rd (y_load 2 rfl rfl rfl (by kernel_rfl)) rfl ?_ | refine wl_rd (y_load 3 rfl rfl rfl (by kernel_rfl)) rfl ?_ | refine wl_rd (y_load 4 rfl rfl rfl (by kernel_rfl)) rfl ?_ | refine wl_rd (y_load 5 rfl rfl rfl (by kernel_rfl)) rfl ?_
  refine wl_gon rfl rfl ?_
  refine wl_pu (y_eql rfl rfl) rfl ?_
  first | refine wl_pu (y_pickT rfl rfl) rfl ?_ | refine wl_pu (y_pickF rfl rfl) rfl ?_
  refine wl_pu (y_assign rfl) rfl ?_
  refine wl_nil ?_
  refine at_then ?_
  refine wc_ret ?_
  -- at: ret
  refine at_ret1 rfl rfl ?_
  exact ⟨by simp, rfl⟩

theorem cwait_spec (F : Hp) (b : Nat) (mean vary : Int) (m : Bool) (wait : Int) :
    Ctr Try.prog 22 [ptr b 0] ((b, cko mean vary m wait) :: F) (fun v L' => v = int wait ∧ L' = (b, cko mean vary m wait) :: F) := by
  refine spec_body Try.func22 Try.ntmps22 rfl rfl ?_
  refine wc_seq ?_
  refine wc_region ?_
  refine wl_pu (y_assign rfl) rfl ?_
  refine wl_nil ?_
  refine at_then ?_
  refine wc_seq ?_
  refine wc_seq ?_
  refine wc_region ?_
  refine wl_pu (y_move rfl) rfl ?_
  -- at: op (call {callee:(value (func 63)), args:[t3], argTypes:[51]})
  refine wl_do (d_call (by kernel_rfl) rfl (cnone_spec _ _ _ _ _ _)) rfl ?_
  rintro _ _ ⟨rfl, rfl⟩
  refine wl_nil ?_
  refine at_then ?_
  -- at: cond
  refine wc_condF rfl ?_
  refine wc_skip ?_
  refine at_then ?_
  refine wc_seq ?_
  refine wc_region ?_
  refine wl_pu (y_move rfl) rfl ?_
  refine wl_pu (y_nil rfl) rfl ?_
  first | refine wl_pu (y_fieldAddr0 5 Try.underlying143 rfl rfl (by kernel_rfl) rfl) rfl ?_ | refine wl_pu (y_fieldAddr 5 Try.underlying143 rfl rfl (by kernel_rfl) rfl) rfl ?_
  first | refine wl_rd (y_load 0 rfl rfl rfl (by kernel_rfl)) rfl ?_ | refine wl_rd (y_load 1 rfl rfl rfl (by kernel_rfl)) rfl ?_ | refine wl_rd (y_load 2 rfl rfl rfl (by kernel_rfl)) rfl ?_ | refine wl_rd (y_load 3 rfl rfl rfl (by kernel_rfl)) rfl ?_ | refine wl_rd (y_load 4 rfl rfl rfl (by kernel_rfl)) rfl ?_ | refine wl_rd (y_load 5 rfl rfl rfl (by kernel_rfl)) rfl ?_
  refine wl_pu (y_assign rfl) rfl ?_
  refine wl_nil ?_
  refine at_then ?_
  refine wc_ret ?_
  -- at: ret
  refine at_ret1 rfl rfl ?_
  exact ⟨rfl, rfl⟩

theorem cset_spec (F : Hp) (b : Nat) (mean vary : Int) (m : Bool) (wait k : Int) :
    Ctr Try.prog 69 [ptr b 0, int k] ((b, cko mean vary m wait) :: F) (fun v L' => v = .tuple #[] ∧ L' = (b, cko mean vary m (min (max k 2) 64)) :: F) := by
  refine spec_body Try.func69 Try.ntmps69 rfl rfl ?_
  -- at: draw
  apply wc_draw 14 (pl := [_, _, _, _, _, _, _, _, _, _, _, _, _, _]) (by kernel_rfl)
  rotate_left
  refine hw_pu (y_move rfl) ?_
  refine hw_pu (y_move rfl) ?_
  refine hw_pu (y_move rfl) ?_
  refine hw_pu (y_nil rfl) ?_
  first | refine hw_pu (y_fieldAddr0 0 Try.underlying143 rfl rfl (by kernel_rfl) rfl) ?_ | refine hw_pu (y_fieldAddr 0 Try.underlying143 rfl rfl (by kernel_rfl) rfl) ?_
  first | refine hw_rd (y_load 0 rfl rfl rfl (by kernel_rfl)) ?_ | refine hw_rd (y_load 1 rfl rfl rfl (by kernel_rfl)) ?_ | refine hw_rd (y_load 2 rfl rfl rfl (by kernel_rfl)) ?_ | refine hw_rd (y_load 3 rfl rfl rfl (by kernel_rfl)) ?_ | refine hw_rd (y_load 4 rfl rfl rfl (by kernel_rfl)) ?_ | refine hw_rd (y_load 5 rfl rfl rfl (by kernel_rfl)) ?_
  refine hw_pu (y_max rfl rfl) ?_
  refine hw_pu (y_move rfl) ?_
  refine hw_pu (y_nil rfl) ?_
  first | refine hw_pu (y_fieldAddr0 1 Try.underlying143 rfl rfl (by kernel_rfl) rfl) ?_ | refine hw_pu (y_fieldAddr 1 Try.underlying143 rfl rfl (by kernel_rfl) rfl) ?_
  first | refine hw_rd (y_load 0 rfl rfl rfl (by kernel_rfl)) ?_ | refine hw_rd (y_load 1 rfl rfl rfl (by kernel_rfl)) ?_ | refine hw_rd (y_load 2 rfl rfl rfl (by kernel_rfl)) ?_ | refine hw_rd (y_load 3 rfl rfl rfl (by kernel_rfl)) ?_ | refine hw_rd (y_load 4 rfl rfl rfl (by kernel_rfl)) ?_ | refine hw_rd (y_load 5 rfl rfl rfl (by kernel_rfl)) ?_
  refine hw_pu (y_min rfl rfl) ?_
  refine hw_pu (y_nil rfl) ?_
  first | refine hw_pu (y_fieldAddr0 5 Try.underlying143 rfl rfl (by kernel_rfl) rfl) ?_ | refine hw_pu (y_fieldAddr 5 Try.underlying143 rfl rfl (by kernel_rfl) rfl) ?_
  refine hw_end1 rfl ?_
  case hB => kernel_rfl
  first | (refine wl_do0 (d_store 0 rfl rfl rfl rfl rfl (by kernel_rfl)) (fun _ _ hL => ?_); subst hL) | (refine wl_do0 (d_store 1 rfl rfl rfl rfl rfl (by kernel_rfl)) (fun _ _ hL => ?_); subst hL) | (refine wl_do0 (d_store 2 rfl rfl rfl rfl rfl (by kernel_rfl)) (fun _ _ hL => ?_); subst hL) | (refine wl_do0 (d_store 3 rfl rfl rfl rfl rfl (by kernel_rfl)) (fun _ _ hL => ?_); subst hL) | (refine wl_do0 (d_store 4 rfl rfl rfl rfl rfl (by kernel_rfl)) (fun _ _ hL => ?_); subst hL) | (refine wl_do0 (d_store 5 rfl rfl rfl rfl rfl (by kernel_rfl)) (fun _ _ hL => ?_); subst hL)
  refine wl_nil ?_
  refine at_nq ?_
  -- at: end
  refine at_end0 rfl ?_
  exact ⟨rfl, rfl⟩

theorem cback_spec (F : Hp) (b : Nat) (mean vary : Int) (m : Bool) (wait : Int) (h : CkOk mean vary wait) :
    Ctr Try.prog 30 [ptr b 0] ((b, cko mean vary m wait) :: F) (fun _ L' => ∃ wait', L' = (b, cko mean vary m wait') :: F ∧ CkOk mean vary wait') := by
  have h0 := h.w0
  have h1 := h.w1
  refine spec_body Try.func30 Try.ntmps30 rfl rfl ?_
  refine wc_seq ?_
  refine wc_region ?_
  refine wl_pu (y_move rfl) rfl ?_
  -- at: op (call {callee:(value (func 63)), args:[t2], argTypes:[51]})
  refine wl_do (d_call (by kernel_rfl) rfl (cnone_spec _ _ _ _ _ _)) rfl ?_
  rintro _ _ ⟨rfl, rfl⟩
  first | refine wl_pu (y_notT rfl) rfl ?_ | refine wl_pu (y_notF rfl) rfl ?_ | refine wl_pu (y_not rfl) rfl ?_ | refine wl_pu (y_notB rfl) rfl ?_
  refine wl_nil ?_
  refine at_then ?_
  -- at: cond
  refine wc_condT rfl ?_
  refine wc_region ?_
  refine wl_pu (y_move rfl) rfl ?_
  refine wl_pu (y_move rfl) rfl ?_
  refine wl_pu (y_nil rfl) rfl ?_
  first | refine wl_pu (y_fieldAddr0 5 Try.underlying143 rfl rfl (by kernel_rfl) rfl) rfl ?_ | refine wl_pu (y_fieldAddr 5 Try.underlying143 rfl rfl (by kernel_rfl) rfl) rfl ?_
  first | refine wl_rd (y_load 0 rfl rfl rfl (by kernel_rfl)) rfl ?_ | refine wl_rd (y_load 1 rfl rfl rfl (by kernel_rfl)) rfl ?_ | refine wl_rd (y_load 2 rfl rfl rfl (by kernel_rfl)) rfl ?_ | refine wl_rd (y_load 3 rfl rfl rfl (by kernel_rfl)) rfl ?_ | refine wl_rd (y_load 4 rfl rfl rfl (by kernel_rfl)) rfl ?_ | refine wl_rd (y_load 5 rfl rfl rfl (by kernel_rfl)) rfl ?_
  refine wl_pu (y_mul rfl rfl (by omega)) rfl ?_
  -- at: op (call {callee:(value (func 69)), args:[t5, t10], argTypes:[51, 3]})
  refine wl_do (d_call (by kernel_rfl) rfl (cset_spec _ _ _ _ _ _ _)) rfl ?_
  rintro _ _ ⟨rfl, rfl⟩
  refine wl_nil ?_
  -- at: end
  refine at_end0 rfl ?_
  exact ⟨_, rfl, h.m0, h.m1, h.v0, h.v1, by omega, by omega⟩

theorem cmeasure_spec (F : Hp) (b : Nat) (mean vary : Int) (m : Bool) (wait r : Int) (h : CkOk mean vary wait) :
    Ctr Try.prog 28 [ptr b 0, int r] ((b, cko mean vary m wait) :: F) (fun _ L' => ∃ mean' vary' m' wait', L' = (b, cko mean' vary' m' wait') :: F ∧ CkOk mean' vary' wait') := by
  obtain ⟨m0, m1, v0, v1, w0, w1⟩ := h
  refine spec_body Try.func28 Try.ntmps28 rfl rfl ?_
  refine wc_seq ?_
  refine wc_seq ?_
  refine wc_region ?_
  refine wl_pu (y_move rfl) rfl ?_
  -- at: op (call {callee:(value (func 63)), args:[t5], argTypes:[51]})
  refine wl_do (d_call (by kernel_rfl) rfl (cnone_spec _ _ _ _ _ _)) rfl ?_
  rintro _ _ ⟨rfl, rfl⟩
  refine wl_nil ?_
  refine at_then ?_
  -- at: cond
  refine wc_condF rfl ?_
  refine wc_skip ?_
  refine at_then ?_
  refine wc_seq ?_
  refine wc_region ?_
  refine wl_pu (y_move rfl) rfl ?_
  refine wl_pu (y_max rfl rfl) rfl ?_
  refine wl_pu (y_min rfl rfl) rfl ?_
  refine wl_pu (y_assign rfl) rfl ?_
  refine wl_nil ?_
  refine at_then ?_
  refine wc_seq ?_
  refine wc_seq ?_
  refine wc_region ?_
  refine wl_pu (y_move rfl) rfl ?_
  refine wl_pu (y_nil rfl) rfl ?_
  first | refine wl_pu (y_fieldAddr0 4 Try.underlying143 rfl rfl (by kernel_rfl) rfl) rfl ?_ | refine wl_pu (y_fieldAddr 4 Try.underlying143 rfl rfl (by kernel_rfl) rfl) rfl ?_
  first | refine wl_rd (y_load 0 rfl rfl rfl (by kernel_rfl)) rfl ?_ | refine wl_rd (y_load 1 rfl rfl rfl (by kernel_rfl)) rfl ?_ | refine wl_rd (y_load 2 rfl rfl rfl (by kernel_rfl)) rfl ?_ | refine wl_rd (y_load 3 rfl rfl rfl (by kernel_rfl)) rfl ?_ | refine wl_rd (y_load 4 rfl rfl rfl (by kernel_rfl)) rfl ?_ | refine wl_rd (y_load 5 rfl rfl rfl (by kernel_rfl)) rfl ?_
  refine wl_nil ?_
  refine at_then ?_
  -- at: cond
  generalize hr : min (max r 0) 1048576 = r'
  have hr0 : 0 ≤ r' := by omega
  have hr1 : r' ≤ 1048576 := by omega
  refine wc_condB rfl (fun hm => ?_) (fun hm => ?_)
  · skip
    refine wc_seq ?_
    refine wc_region ?_
    refine wl_pu (y_move rfl) rfl ?_
    refine wl_pu (y_move rfl) rfl ?_
    refine wl_pu (y_nil rfl) rfl ?_
    first | refine wl_pu (y_fieldAddr0 2 Try.underlying143 rfl rfl (by kernel_rfl) rfl) rfl ?_ | refine wl_pu (y_fieldAddr 2 Try.underlying143 rfl rfl (by kernel_rfl) rfl) rfl ?_
    first | refine wl_rd (y_load 0 rfl rfl rfl (by kernel_rfl)) rfl ?_ | refine wl_rd (y_load 1 rfl rfl rfl (by kernel_rfl)) rfl ?_ | refine wl_rd (y_load 2 rfl rfl rfl (by kernel_rfl)) rfl ?_ | refine wl_rd (y_load 3 rfl rfl rfl (by kernel_rfl)) rfl ?_ | refine wl_rd (y_load 4 rfl rfl rfl (by kernel_rfl)) rfl ?_ | refine wl_rd (y_load 5 rfl rfl rfl (by kernel_rfl)) rfl ?_
    refine wl_pu (y_quo rfl rfl (by omega)) rfl ?_
    refine wl_pu (y_sub rfl rfl (by omega)) rfl ?_
    refine wl_pu (y_assign rfl) rfl ?_
    refine wl_nil ?_
    refine at_then ?_
    refine wc_seq ?_
    -- at: draw
    apply wc_draw 17 (pl := [_, _, _, _, _, _, _, _, _, _, _, _, _, _, _, _, _]) (by kernel_rfl)
    rotate_left
    refine hw_pu (y_move rfl) ?_
    refine hw_pu (y_nil rfl) ?_
    first | refine hw_pu (y_fieldAddr0 3 Try.underlying143 rfl rfl (by kernel_rfl) rfl) ?_ | refine hw_pu (y_fieldAddr 3 Try.underlying143 rfl rfl (by kernel_rfl) rfl) ?_
    first | refine hw_rd (y_load 0 rfl rfl rfl (by kernel_rfl)) ?_ | refine hw_rd (y_load 1 rfl rfl rfl (by kernel_rfl)) ?_ | refine hw_rd (y_load 2 rfl rfl rfl (by kernel_rfl)) ?_ | refine hw_rd (y_load 3 rfl rfl rfl (by kernel_rfl)) ?_ | refine hw_rd (y_load 4 rfl rfl rfl (by kernel_rfl)) ?_ | refine hw_rd (y_load 5 rfl rfl rfl (by kernel_rfl)) ?_
    refine hw_pu (y_move rfl) ?_
    refine hw_pu (y_move rfl) ?_
    refine hw_pu (y_neg rfl (by omega) (by omega)) ?_
    refine hw_pu (y_max rfl rfl) ?_
    refine hw_pu (y_move rfl) ?_
    refine hw_pu (y_nil rfl) ?_
    first | refine hw_pu (y_fieldAddr0 3 Try.underlying143 rfl rfl (by kernel_rfl) rfl) ?_ | refine hw_pu (y_fieldAddr 3 Try.underlying143 rfl rfl (by kernel_rfl) rfl) ?_
    first | refine hw_rd (y_load 0 rfl rfl rfl (by kernel_rfl)) ?_ | refine hw_rd (y_load 1 rfl rfl rfl (by kernel_rfl)) ?_ | refine hw_rd (y_load 2 rfl rfl rfl (by kernel_rfl)) ?_ | refine hw_rd (y_load 3 rfl rfl rfl (by kernel_rfl)) ?_ | refine hw_rd (y_load 4 rfl rfl rfl (by kernel_rfl)) ?_ | refine hw_rd (y_load 5 rfl rfl rfl (by kernel_rfl)) ?_
    refine hw_pu (y_quo rfl rfl (by omega)) ?_
    refine hw_pu (y_sub rfl rfl (by omega)) ?_
    refine hw_pu (y_add rfl rfl (by omega)) ?_
    refine hw_pu (y_nil rfl) ?_
    first | refine hw_pu (y_fieldAddr0 3 Try.underlying143 rfl rfl (by kernel_rfl) rfl) ?_ | refine hw_pu (y_fieldAddr 3 Try.underlying143 rfl rfl (by kernel_rfl) rfl) ?_
    refine hw_end1 rfl ?_
    case hB => kernel_rfl
    first | (refine wl_do0 (d_store 0 rfl rfl rfl rfl rfl (by kernel_rfl)) (fun _ _ hL => ?_); subst hL) | (refine wl_do0 (d_store 1 rfl rfl rfl rfl rfl (by kernel_rfl)) (fun _ _ hL => ?_); subst hL) | (refine wl_do0 (d_store 2 rfl rfl rfl rfl rfl (by kernel_rfl)) (fun _ _ hL => ?_); subst hL) | (refine wl_do0 (d_store 3 rfl rfl rfl rfl rfl (by kernel_rfl)) (fun _ _ hL => ?_); subst hL) | (refine wl_do0 (d_store 4 rfl rfl rfl rfl rfl (by kernel_rfl)) (fun _ _ hL => ?_); subst hL) | (refine wl_do0 (d_store 5 rfl rfl rfl rfl rfl (by kernel_rfl)) (fun _ _ hL => ?_); subst hL)
    refine wl_nil ?_
    refine at_nq ?_
    refine at_then ?_
    refine wc_region ?_
    refine wl_pu (y_move rfl) rfl ?_
    refine wl_pu (y_nil rfl) rfl ?_
    first | refine wl_pu (y_fieldAddr0 2 Try.underlying143 rfl rfl (by kernel_rfl) rfl) rfl ?_ | refine wl_pu (y_fieldAddr 2 Try.underlying143 rfl rfl (by kernel_rfl) rfl) rfl ?_
    first | refine wl_rd (y_load 0 rfl rfl rfl (by kernel_rfl)) rfl ?_ | refine wl_rd (y_load 1 rfl rfl rfl (by kernel_rfl)) rfl ?_ | refine wl_rd (y_load 2 rfl rfl rfl (by kernel_rfl)) rfl ?_ | refine wl_rd (y_load 3 rfl rfl rfl (by kernel_rfl)) rfl ?_ | refine wl_rd (y_load 4 rfl rfl rfl (by kernel_rfl)) rfl ?_ | refine wl_rd (y_load 5 rfl rfl rfl (by kernel_rfl)) rfl ?_
    refine wl_pu (y_move rfl) rfl ?_
    refine wl_pu (y_add rfl rfl (by omega)) rfl ?_
    refine wl_pu (y_nil rfl) rfl ?_
    first | refine wl_pu (y_fieldAddr0 2 Try.underlying143 rfl rfl (by kernel_rfl) rfl) rfl ?_ | refine wl_pu (y_fieldAddr 2 Try.underlying143 rfl rfl (by kernel_rfl) rfl) rfl ?_
    first | (refine wl_do0 (d_store 0 rfl rfl rfl rfl rfl (by kernel_rfl)) (fun _ _ hL => ?_); subst hL) | (refine wl_do0 (d_store 1 rfl rfl rfl rfl rfl (by kernel_rfl)) (fun _ _ hL => ?_); subst hL) | (refine wl_do0 (d_store 2 rfl rfl rfl rfl rfl (by kernel_rfl)) (fun _ _ hL => ?_); subst hL) | (refine wl_do0 (d_store 3 rfl rfl rfl rfl rfl (by kernel_rfl)) (fun _ _ hL => ?_); subst hL) | (refine wl_do0 (d_store 4 rfl rfl rfl rfl rfl (by kernel_rfl)) (fun _ _ hL => ?_); subst hL) | (refine wl_do0 (d_store 5 rfl rfl rfl rfl rfl (by kernel_rfl)) (fun _ _ hL => ?_); subst hL)
    refine wl_nil ?_
    refine at_then ?_
    -- at: draw
    apply wc_draw 12 (pl := [_, _, _, _, _, _, _, _, _, _, _, _]) (by kernel_rfl)
    rotate_left
    refine hw_pu (y_move rfl) ?_
    refine hw_pu (y_move rfl) ?_
    refine hw_pu (y_nil rfl) ?_
    first | refine hw_pu (y_fieldAddr0 2 Try.underlying143 rfl rfl (by kernel_rfl) rfl) ?_ | refine hw_pu (y_fieldAddr 2 Try.underlying143 rfl rfl (by kernel_rfl) rfl) ?_
    first | refine hw_rd (y_load 0 rfl rfl rfl (by kernel_rfl)) ?_ | refine hw_rd (y_load 1 rfl rfl rfl (by kernel_rfl)) ?_ | refine hw_rd (y_load 2 rfl rfl rfl (by kernel_rfl)) ?_ | refine hw_rd (y_load 3 rfl rfl rfl (by kernel_rfl)) ?_ | refine hw_rd (y_load 4 rfl rfl rfl (by kernel_rfl)) ?_ | refine hw_rd (y_load 5 rfl rfl rfl (by kernel_rfl)) ?_
    refine hw_pu (y_quo rfl rfl (by omega)) ?_
    refine hw_pu (y_move rfl) ?_
    refine hw_pu (y_nil rfl) ?_
    first | refine hw_pu (y_fieldAddr0 3 Try.underlying143 rfl rfl (by kernel_rfl) rfl) ?_ | refine hw_pu (y_fieldAddr 3 Try.underlying143 rfl rfl (by kernel_rfl) rfl) ?_
    first | refine hw_rd (y_load 0 rfl rfl rfl (by kernel_rfl)) ?_ | refine hw_rd (y_load 1 rfl rfl rfl (by kernel_rfl)) ?_ | refine hw_rd (y_load 2 rfl rfl rfl (by kernel_rfl)) ?_ | refine hw_rd (y_load 3 rfl rfl rfl (by kernel_rfl)) ?_ | refine hw_rd (y_load 4 rfl rfl rfl (by kernel_rfl)) ?_ | refine hw_rd (y_load 5 rfl rfl rfl (by kernel_rfl)) ?_
    refine hw_pu (y_max rfl rfl) ?_
    refine hw_pu (y_add rfl rfl (by omega)) ?_
    refine hw_end1 rfl ?_
    case hB => kernel_rfl
    -- at: op (call {callee:(value (func 69)), args:[t59, t70], argTypes:[51, 3]})
    refine wl_do (d_call (by kernel_rfl) rfl (cset_spec _ _ _ _ _ _ _)) rfl ?_
    rintro _ _ ⟨rfl, rfl⟩
    refine wl_nil ?_
    refine at_nq ?_
    -- at: end
    refine at_end0 rfl ?_
    exact ⟨_, _, _, _, rfl, by omega, by omega, by omega, by omega, by omega, by omega⟩
  · skip
    refine wc_region ?_
    refine wl_pu (y_move rfl) rfl ?_
    refine wl_pu (y_move rfl) rfl ?_
    refine wl_pu (y_move rfl) rfl ?_
    refine wl_pu (y_move rfl) rfl ?_
    refine wl_pu (y_mul rfl rfl (by omega)) rfl ?_
    refine wl_pu (y_move rfl) rfl ?_
    refine wl_pu (y_mul rfl rfl (by omega)) rfl ?_
    refine wl_pu (y_nil rfl) rfl ?_
    first | refine wl_pu (y_fieldAddr0 2 Try.underlying143 rfl rfl (by kernel_rfl) rfl) rfl ?_ | refine wl_pu (y_fieldAddr 2 Try.underlying143 rfl rfl (by kernel_rfl) rfl) rfl ?_
    first | (refine wl_do0 (d_store 0 rfl rfl rfl rfl rfl (by kernel_rfl)) (fun _ _ hL => ?_); subst hL) | (refine wl_do0 (d_store 1 rfl rfl rfl rfl rfl (by kernel_rfl)) (fun _ _ hL => ?_); subst hL) | (refine wl_do0 (d_store 2 rfl rfl rfl rfl rfl (by kernel_rfl)) (fun _ _ hL => ?_); subst hL) | (refine wl_do0 (d_store 3 rfl rfl rfl rfl rfl (by kernel_rfl)) (fun _ _ hL => ?_); subst hL) | (refine wl_do0 (d_store 4 rfl rfl rfl rfl rfl (by kernel_rfl)) (fun _ _ hL => ?_); subst hL) | (refine wl_do0 (d_store 5 rfl rfl rfl rfl rfl (by kernel_rfl)) (fun _ _ hL => ?_); subst hL)
    refine wl_pu (y_nil rfl) rfl ?_
    first | refine wl_pu (y_fieldAddr0 3 Try.underlying143 rfl rfl (by kernel_rfl) rfl) rfl ?_ | refine wl_pu (y_fieldAddr 3 Try.underlying143 rfl rfl (by kernel_rfl) rfl) rfl ?_
    first | (refine wl_do0 (d_store 0 rfl rfl rfl rfl rfl (by kernel_rfl)) (fun _ _ hL => ?_); subst hL) | (refine wl_do0 (d_store 1 rfl rfl rfl rfl rfl (by kernel_rfl)) (fun _ _ hL => ?_); subst hL) | (refine wl_do0 (d_store 2 rfl rfl rfl rfl rfl (by kernel_rfl)) (fun _ _ hL => ?_); subst hL) | (refine wl_do0 (d_store 3 rfl rfl rfl rfl rfl (by kernel_rfl)) (fun _ _ hL => ?_); subst hL) | (refine wl_do0 (d_store 4 rfl rfl rfl rfl rfl (by kernel_rfl)) (fun _ _ hL => ?_); subst hL) | (refine wl_do0 (d_store 5 rfl rfl rfl rfl rfl (by kernel_rfl)) (fun _ _ hL => ?_); subst hL)
    refine wl_pu (y_nil rfl) rfl ?_
    first | refine wl_pu (y_fieldAddr0 4 Try.underlying143 rfl rfl (by kernel_rfl) rfl) rfl ?_ | refine wl_pu (y_fieldAddr 4 Try.underlying143 rfl rfl (by kernel_rfl) rfl) rfl ?_
    first | (refine wl_do0 (d_store 0 rfl rfl rfl rfl rfl (by kernel_rfl)) (fun _ _ hL => ?_); subst hL) | (refine wl_do0 (d_store 1 rfl rfl rfl rfl rfl (by kernel_rfl)) (fun _ _ hL => ?_); subst hL) | (refine wl_do0 (d_store 2 rfl rfl rfl rfl rfl (by kernel_rfl)) (fun _ _ hL => ?_); subst hL) | (refine wl_do0 (d_store 3 rfl rfl rfl rfl rfl (by kernel_rfl)) (fun _ _ hL => ?_); subst hL) | (refine wl_do0 (d_store 4 rfl rfl rfl rfl rfl (by kernel_rfl)) (fun _ _ hL => ?_); subst hL) | (refine wl_do0 (d_store 5 rfl rfl rfl rfl rfl (by kernel_rfl)) (fun _ _ hL => ?_); subst hL)
    refine wl_nil ?_
    refine at_then ?_
    -- at: draw
    apply wc_draw 12 (pl := [_, _, _, _, _, _, _, _, _, _, _, _]) (by kernel_rfl)
    rotate_left
    refine hw_pu (y_move rfl) ?_
    refine hw_pu (y_move rfl) ?_
    refine hw_pu (y_nil rfl) ?_
    first | refine hw_pu (y_fieldAddr0 2 Try.underlying143 rfl rfl (by kernel_rfl) rfl) ?_ | refine hw_pu (y_fieldAddr 2 Try.underlying143 rfl rfl (by kernel_rfl) rfl) ?_
    first | refine hw_rd (y_load 0 rfl rfl rfl (by kernel_rfl)) ?_ | refine hw_rd (y_load 1 rfl rfl rfl (by kernel_rfl)) ?_ | refine hw_rd (y_load 2 rfl rfl rfl (by kernel_rfl)) ?_ | refine hw_rd (y_load 3 rfl rfl rfl (by kernel_rfl)) ?_ | refine hw_rd (y_load 4 rfl rfl rfl (by kernel_rfl)) ?_ | refine hw_rd (y_load 5 rfl rfl rfl (by kernel_rfl)) ?_
    refine hw_pu (y_quo rfl rfl (by omega)) ?_
    refine hw_pu (y_move rfl) ?_
    refine hw_pu (y_nil rfl) ?_
    first | refine hw_pu (y_fieldAddr0 3 Try.underlying143 rfl rfl (by kernel_rfl) rfl) ?_ | refine hw_pu (y_fieldAddr 3 Try.underlying143 rfl rfl (by kernel_rfl) rfl) ?_
    first | refine hw_rd (y_load 0 rfl rfl rfl (by kernel_rfl)) ?_ | refine hw_rd (y_load 1 rfl rfl rfl (by kernel_rfl)) ?_ | refine hw_rd (y_load 2 rfl rfl rfl (by kernel_rfl)) ?_ | refine hw_rd (y_load 3 rfl rfl rfl (by kernel_rfl)) ?_ | refine hw_rd (y_load 4 rfl rfl rfl (by kernel_rfl)) ?_ | refine hw_rd (y_load 5 rfl rfl rfl (by kernel_rfl)) ?_
    refine hw_pu (y_max rfl rfl) ?_
    refine hw_pu (y_add rfl rfl (by omega)) ?_
    refine hw_end1 rfl ?_
    case hB => kernel_rfl
    -- at: op (call {callee:(value (func 69)), args:[t59, t70], argTypes:[51, 3]})
    refine wl_do (d_call (by kernel_rfl) rfl (cset_spec _ _ _ _ _ _ _)) rfl ?_
    rintro _ _ ⟨rfl, rfl⟩
    refine wl_nil ?_
    refine at_nq ?_
    -- at: end
    refine at_end0 rfl ?_
    exact ⟨_, _, _, _, rfl, by omega, by omega, by omega, by omega, by omega, by omega⟩
end Go.Proofs.Ytkpndnjhfocheaa
