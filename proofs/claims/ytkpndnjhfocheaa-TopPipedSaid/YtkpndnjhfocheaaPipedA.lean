/- The small functions of sbuf, seqn: what each call comes to. -/
import Derived.Test.YtkpndnjhfocheaaChecked
import Derived.Test.YtkpndnjhfocheaaSLg
namespace Go.Proofs.Ytkpndnjhfocheaa
open Go.SL
variable {X : Inhabited SL.Outside}

theorem ahead_spec (L : Hp) (a b : Int) :
    Ctr Try.prog 61 [.int .u32 a, .int .u32 b] L (fun v L' => v = int ((b - a) % 4294967296) ∧ L' = L) := by
  refine spec_body Try.func61 Try.ntmps61 rfl rfl ?_
  refine wc_seq ?_
  refine wc_region ?_
  refine wl_pu (y_assign rfl) rfl ?_
  refine wl_nil ?_
  refine at_then ?_
  refine wc_seq ?_
  refine wc_region ?_
  refine wl_pu (y_move rfl) rfl ?_
  refine wl_pu (y_move rfl) rfl ?_
  refine wl_pu (y_sub32 rfl rfl) rfl ?_
  first | refine wl_pu (y_conv Try.underlying23 Try.underlying3 rfl (IntWalk.i64_in _ (by omega))) rfl ?_ | refine wl_pu (y_conv Try.underlying23 Try.underlying3 rfl rfl) rfl ?_
  refine wl_pu (y_assign rfl) rfl ?_
  refine wl_nil ?_
  refine at_then ?_
  refine wc_ret ?_
  -- at: ret
  refine at_ret1 rfl rfl ?_
  exact ⟨rfl, rfl⟩

/-- What a send buffer is in memory. -/
abbrev sbo (room una : Int) (s : List UInt8) : Obj := row 138 [int room, .int .u32 una, S s]

theorem snone_spec (F : Hp) (b : Nat) (room una : Int) (s : List UInt8) (hr : 1 ≤ room) :
    Ctr Try.prog 60 [ptr b 0] ((b, sbo room una s) :: F) (fun v L' => v = .bool false ∧ L' = (b, sbo room una s) :: F) := by
  refine spec_body Try.func60 Try.ntmps60 rfl rfl ?_
  refine wc_seq ?_
  refine wc_region ?_
  refine wl_pu (y_assign rfl) rfl ?_
  refine wl_nil ?_
  refine at_then ?_
  refine wc_seq ?_
  refine wc_region ?_
  refine wl_pu (y_move rfl) rfl ?_
  refine wl_pu (y_eqlnil Try.underlying45 rfl rfl) rfl ?_
  refine wl_pu (y_move rfl) rfl ?_
  -- at: guard 2
  refine wl_gon rfl rfl ?_
  refine wl_pu (y_move rfl) rfl ?_
  refine wl_gon rfl rfl ?_
  refine wl_pu (y_nil rfl) rfl ?_
  refine wl_gon rfl rfl ?_
  first | refine wl_pu (y_fieldAddr0 0 Try.underlying138 rfl rfl (by kernel_rfl) rfl) rfl ?_ | refine wl_pu (y_fieldAddr 0 Try.underlying138 rfl rfl (by kernel_rfl) rfl) rfl ?_
  refine wl_gon rfl rfl ?_
  first | refine wl_rd (y_load 0 rfl rfl rfl (by kernel_rfl)) rfl ?_ | refine wl_rd (y_load 1 rfl rfl rfl (by kernel_rfl)) rfl ?_ | refine wl_rd (y_load 2 rfl rfl rfl (by kernel_rfl)) rfl ?_ | refine wl_rd (y_load 3 rfl rfl rfl (by kernel_rfl)) rfl ?_ | refine wl_rd (y_load 4 rfl rfl rfl (by kernel_rfl)) rfl ?_ | refine wl_rd (y_load 5 rfl rfl rfl (by kernel_rfl)) rfl ?_
  refine wl_gon rfl rfl ?_
  refine wl_pu (y_eql rfl rfl) rfl ?_
  first | refine wl_pu (y_pickT rfl rfl) rfl ?_ | refine wl_pu (y_pickF rfl rfl) rfl ?_
  refine wl_pu (y_assign rfl) rfl ?_
  refine wl_nil ?_
  refine at_then ?_
  refine wc_ret ?_
  -- at: ret
  refine at_ret1 rfl rfl ?_
  exact ⟨by simp; omega, rfl⟩

theorem slen_spec (F : Hp) (b : Nat) (room una : Int) (s : List UInt8) (hr : 1 ≤ room) :
    Ctr Try.prog 18 [ptr b 0] ((b, sbo room una s) :: F) (fun v L' => v = int s.length ∧ L' = (b, sbo room una s) :: F) := by
  refine spec_body Try.func18 Try.ntmps18 rfl rfl ?_
  refine wc_seq ?_
  refine wc_region ?_
  refine wl_pu (y_assign rfl) rfl ?_
  refine wl_nil ?_
  refine at_then ?_
  refine wc_seq ?_
  refine wc_seq ?_
  refine wc_region ?_
  refine wl_pu (y_move rfl) rfl ?_
  -- at: op (call {callee:(value (func 60)), args:[t3], argTypes:[45]})
  refine wl_do (d_call (by kernel_rfl) rfl (snone_spec _ _ _ _ _ hr)) rfl ?_
  rintro _ _ ⟨rfl, rfl⟩
  refine wl_nil ?_
  refine at_then ?_
  -- at: cond
  refine wc_condF rfl ?_
  refine wc_skip ?_
  refine at_then ?_
  refine wc_seq ?_
  refine wc_region ?_
  refine wl_pu (y_move rfl) rfl ?_
  refine wl_pu (y_nil rfl) rfl ?_
  first | refine wl_pu (y_fieldAddr0 2 Try.underlying138 rfl rfl (by kernel_rfl) rfl) rfl ?_ | refine wl_pu (y_fieldAddr 2 Try.underlying138 rfl rfl (by kernel_rfl) rfl) rfl ?_
  first | refine wl_rd (y_load 0 rfl rfl rfl (by kernel_rfl)) rfl ?_ | refine wl_rd (y_load 1 rfl rfl rfl (by kernel_rfl)) rfl ?_ | refine wl_rd (y_load 2 rfl rfl rfl (by kernel_rfl)) rfl ?_ | refine wl_rd (y_load 3 rfl rfl rfl (by kernel_rfl)) rfl ?_ | refine wl_rd (y_load 4 rfl rfl rfl (by kernel_rfl)) rfl ?_ | refine wl_rd (y_load 5 rfl rfl rfl (by kernel_rfl)) rfl ?_
  refine wl_pu (y_lenS Try.underlying9 rfl) rfl ?_
  refine wl_pu (y_assign rfl) rfl ?_
  refine wl_nil ?_
  refine at_then ?_
  refine wc_ret ?_
  -- at: ret
  refine at_ret1 rfl rfl ?_
  exact ⟨rfl, rfl⟩

theorem suna_spec (F : Hp) (b : Nat) (room una : Int) (s : List UInt8) (hr : 1 ≤ room) :
    Ctr Try.prog 19 [ptr b 0] ((b, sbo room una s) :: F) (fun v L' => v = .int .u32 una ∧ L' = (b, sbo room una s) :: F) := by
  refine spec_body Try.func19 Try.ntmps19 rfl rfl ?_
  refine wc_seq ?_
  refine wc_region ?_
  refine wl_pu (y_assign rfl) rfl ?_
  refine wl_nil ?_
  refine at_then ?_
  refine wc_seq ?_
  refine wc_seq ?_
  refine wc_region ?_
  refine wl_pu (y_move rfl) rfl ?_
  -- at: op (call {callee:(value (func 60)), args:[t3], argTypes:[45]})
  refine wl_do (d_call (by kernel_rfl) rfl (snone_spec _ _ _ _ _ hr)) rfl ?_
  rintro _ _ ⟨rfl, rfl⟩
  refine wl_nil ?_
  refine at_then ?_
  -- at: cond
  refine wc_condF rfl ?_
  refine wc_skip ?_
  refine at_then ?_
  refine wc_seq ?_
  refine wc_region ?_
  refine wl_pu (y_move rfl) rfl ?_
  refine wl_pu (y_nil rfl) rfl ?_
  first | refine wl_pu (y_fieldAddr0 1 Try.underlying138 rfl rfl (by kernel_rfl) rfl) rfl ?_ | refine wl_pu (y_fieldAddr 1 Try.underlying138 rfl rfl (by kernel_rfl) rfl) rfl ?_
  first | refine wl_rd (y_load 0 rfl rfl rfl (by kernel_rfl)) rfl ?_ | refine wl_rd (y_load 1 rfl rfl rfl (by kernel_rfl)) rfl ?_ | refine wl_rd (y_load 2 rfl rfl rfl (by kernel_rfl)) rfl ?_ | refine wl_rd (y_load 3 rfl rfl rfl (by kernel_rfl)) rfl ?_ | refine wl_rd (y_load 4 rfl rfl rfl (by kernel_rfl)) rfl ?_ | refine wl_rd (y_load 5 rfl rfl rfl (by kernel_rfl)) rfl ?_
  refine wl_pu (y_assign rfl) rfl ?_
  refine wl_nil ?_
  refine at_then ?_
  refine wc_ret ?_
  -- at: ret
  refine at_ret1 rfl rfl ?_
  exact ⟨rfl, rfl⟩

theorem sroom_spec (F : Hp) (b : Nat) (room una : Int) (s : List UInt8) (hr : 1 ≤ room ∧ room ≤ 2048) (hs : s.length ≤ 2048) :
    Ctr Try.prog 59 [ptr b 0] ((b, sbo room una s) :: F) (fun v L' => v = int (room - s.length) ∧ L' = (b, sbo room una s) :: F) := by
  refine spec_body Try.func59 Try.ntmps59 rfl rfl ?_
  refine wc_seq ?_
  refine wc_region ?_
  refine wl_pu (y_assign rfl) rfl ?_
  refine wl_nil ?_
  refine at_then ?_
  refine wc_seq ?_
  refine wc_seq ?_
  refine wc_region ?_
  refine wl_pu (y_move rfl) rfl ?_
  -- at: op (call {callee:(value (func 60)), args:[t3], argTypes:[45]})
  refine wl_do (d_call (by kernel_rfl) rfl (snone_spec _ _ _ _ _ hr.1)) rfl ?_
  rintro _ _ ⟨rfl, rfl⟩
  refine wl_nil ?_
  refine at_then ?_
  -- at: cond
  refine wc_condF rfl ?_
  refine wc_skip ?_
  refine at_then ?_
  refine wc_seq ?_
  -- at: draw
  apply wc_draw 11 (pl := [_, _, _, _, _, _, _, _, _, _, _]) (by kernel_rfl)
  rotate_left
  refine hw_pu (y_move rfl) ?_
  refine hw_pu (y_nil rfl) ?_
  first | refine hw_pu (y_fieldAddr0 0 Try.underlying138 rfl rfl (by kernel_rfl) rfl) ?_ | refine hw_pu (y_fieldAddr 0 Try.underlying138 rfl rfl (by kernel_rfl) rfl) ?_
  first | refine hw_rd (y_load 0 rfl rfl rfl (by kernel_rfl)) ?_ | refine hw_rd (y_load 1 rfl rfl rfl (by kernel_rfl)) ?_ | refine hw_rd (y_load 2 rfl rfl rfl (by kernel_rfl)) ?_ | refine hw_rd (y_load 3 rfl rfl rfl (by kernel_rfl)) ?_ | refine hw_rd (y_load 4 rfl rfl rfl (by kernel_rfl)) ?_ | refine hw_rd (y_load 5 rfl rfl rfl (by kernel_rfl)) ?_
  refine hw_pu (y_move rfl) ?_
  refine hw_pu (y_nil rfl) ?_
  first | refine hw_pu (y_fieldAddr0 2 Try.underlying138 rfl rfl (by kernel_rfl) rfl) ?_ | refine hw_pu (y_fieldAddr 2 Try.underlying138 rfl rfl (by kernel_rfl) rfl) ?_
  first | refine hw_rd (y_load 0 rfl rfl rfl (by kernel_rfl)) ?_ | refine hw_rd (y_load 1 rfl rfl rfl (by kernel_rfl)) ?_ | refine hw_rd (y_load 2 rfl rfl rfl (by kernel_rfl)) ?_ | refine hw_rd (y_load 3 rfl rfl rfl (by kernel_rfl)) ?_ | refine hw_rd (y_load 4 rfl rfl rfl (by kernel_rfl)) ?_ | refine hw_rd (y_load 5 rfl rfl rfl (by kernel_rfl)) ?_
  refine hw_pu (y_lenS Try.underlying9 rfl) ?_
  refine hw_pu (y_sub rfl rfl (by omega)) ?_
  refine hw_pu (y_assign rfl) ?_
  refine hw_end [] rfl ?_
  case hB => kernel_rfl
  refine wl_nil ?_
  refine at_nq ?_
  refine at_then ?_
  refine wc_ret ?_
  -- at: ret
  refine at_ret1 rfl rfl ?_
  exact ⟨rfl, rfl⟩
theorem snew_spec (L : Hp) (una room : Int) (hr : 1 ≤ room ∧ room ≤ 2048) :
    Ctr Try.prog 13 [.int .u32 una, int room] L (fun v L' => ∃ b, v = .tuple #[ptr b 0, int 0] ∧ L' = (b, sbo room una []) :: L) := by
  refine spec_body Try.func13 Try.ntmps13 rfl rfl ?_
  refine wc_seq ?_
  refine wc_region ?_
  refine wl_pu (y_assign rfl) rfl ?_
  refine wl_pu (y_assign rfl) rfl ?_
  refine wl_nil ?_
  refine at_then ?_
  refine wc_seq ?_
  refine wc_seq ?_
  refine wc_region ?_
  refine wl_pu (y_move rfl) rfl ?_
  refine wl_pu (y_lss rfl rfl) rfl ?_
  refine wl_pu (y_move rfl) rfl ?_
  -- at: guard 2
  refine wl_splitD 8 rfl (fun hc => absurd hc ((by omega))) (fun _ => ?_)
  refine wl_gon rfl rfl ?_
  refine wl_pu (y_move rfl) rfl ?_
  refine wl_gon rfl rfl ?_
  refine wl_pu (y_gtr rfl rfl) rfl ?_
  first | refine wl_pu (y_pickT rfl rfl) rfl ?_ | refine wl_pu (y_pickF rfl rfl) rfl ?_
  refine wl_nil ?_
  refine at_then ?_
  -- at: cond
  refine wc_condD rfl (fun hc => absurd hc ((by omega))) (fun _ => ?_)
  refine wc_skip ?_
  refine at_then ?_
  refine wc_seq ?_
  refine wc_region ?_
  refine wl_pu (y_move rfl) rfl ?_
  refine wl_pu (y_move rfl) rfl ?_
  -- at: op (build 138 [(0, t12), (1, t13)])
  refine wl_pu (y_build [int room, .int .u32 una, S []] rfl (by kernel_rfl)) rfl ?_
  refine wl_do (d_box rfl) rfl ?_
  rintro _ _ ⟨bNEW, rfl, rfl⟩
  refine wl_pu (y_assign rfl) rfl ?_
  refine wl_pu (y_assign rfl) rfl ?_
  refine wl_nil ?_
  refine at_then ?_
  refine wc_ret ?_
  -- at: ret
  refine at_ret2 rfl rfl rfl ?_
  exact ⟨_, rfl, rfl⟩

theorem swrite_spec (F : Hp) (b : Nat) (room una : Int) (s t : List UInt8) (hr : 1 ≤ room ∧ room ≤ 2048) (hs : (s.length : Int) ≤ room) (ht : t.length ≤ 2048) :
    Ctr Try.prog 17 [ptr b 0, S t] ((b, sbo room una s) :: F) (fun v L' => v = int (min (t.length : Int) (room - s.length)) ∧ L' = (b, sbo room una (s ++ t.take (min (t.length : Int) (room - s.length)).toNat)) :: F) := by
  refine spec_body Try.func17 Try.ntmps17 rfl rfl ?_
  refine wc_seq ?_
  refine wc_region ?_
  refine wl_pu (y_assign rfl) rfl ?_
  refine wl_nil ?_
  refine at_then ?_
  refine wc_seq ?_
  refine wc_region ?_
  refine wl_pu (y_move rfl) rfl ?_
  refine wl_pu (y_lenS Try.underlying9 rfl) rfl ?_
  refine wl_pu (y_move rfl) rfl ?_
  -- at: op (call {callee:(value (func 59)), args:[t8], argTypes:[45]})
  refine wl_do (d_call (by kernel_rfl) rfl (sroom_spec _ _ _ _ _ hr (by omega))) rfl ?_
  rintro _ _ ⟨rfl, rfl⟩
  refine wl_pu (y_min rfl rfl) rfl ?_
  refine wl_pu (y_assign rfl) rfl ?_
  refine wl_nil ?_
  refine at_then ?_
  refine wc_seq ?_
  refine wc_seq ?_
  refine wc_region ?_
  refine wl_pu (y_move rfl) rfl ?_
  refine wl_pu (y_gtr rfl rfl) rfl ?_
  refine wl_nil ?_
  refine at_then ?_
  -- at: cond
  refine wc_condD rfl (fun h => ?_) (fun h => ?_)
  · skip
    apply wc_draw 10 (pl := [_, _, _, _, _, _, _, _, _, _]) (by kernel_rfl)
    rotate_left
    have hl : (t.take (min (t.length : Int) (room - s.length)).toNat).length ≤ 2048 := by rw [List.length_take]; omega
    refine hw_pu (y_move rfl) ?_
    refine hw_pu (y_nil rfl) ?_
    first | refine hw_pu (y_fieldAddr0 2 Try.underlying138 rfl rfl (by kernel_rfl) rfl) ?_ | refine hw_pu (y_fieldAddr 2 Try.underlying138 rfl rfl (by kernel_rfl) rfl) ?_
    first | refine hw_rd (y_load 0 rfl rfl rfl (by kernel_rfl)) ?_ | refine hw_rd (y_load 1 rfl rfl rfl (by kernel_rfl)) ?_ | refine hw_rd (y_load 2 rfl rfl rfl (by kernel_rfl)) ?_ | refine hw_rd (y_load 3 rfl rfl rfl (by kernel_rfl)) ?_ | refine hw_rd (y_load 4 rfl rfl rfl (by kernel_rfl)) ?_ | refine hw_rd (y_load 5 rfl rfl rfl (by kernel_rfl)) ?_
    refine hw_pu (y_move rfl) ?_
    refine hw_pu (y_move rfl) ?_
    refine hw_pu (y_toS Try.underlying9 rfl rfl (by omega)) ?_
    refine hw_pu (y_cat rfl rfl (by omega)) ?_
    refine hw_pu (y_nil rfl) ?_
    first | refine hw_pu (y_fieldAddr0 2 Try.underlying138 rfl rfl (by kernel_rfl) rfl) ?_ | refine hw_pu (y_fieldAddr 2 Try.underlying138 rfl rfl (by kernel_rfl) rfl) ?_
    refine hw_end1 rfl ?_
    case hB => kernel_rfl
    first | (refine wl_do0 (d_store 0 rfl rfl rfl rfl rfl (by kernel_rfl)) (fun _ _ hL => ?_); subst hL) | (refine wl_do0 (d_store 1 rfl rfl rfl rfl rfl (by kernel_rfl)) (fun _ _ hL => ?_); subst hL) | (refine wl_do0 (d_store 2 rfl rfl rfl rfl rfl (by kernel_rfl)) (fun _ _ hL => ?_); subst hL) | (refine wl_do0 (d_store 3 rfl rfl rfl rfl rfl (by kernel_rfl)) (fun _ _ hL => ?_); subst hL) | (refine wl_do0 (d_store 4 rfl rfl rfl rfl rfl (by kernel_rfl)) (fun _ _ hL => ?_); subst hL) | (refine wl_do0 (d_store 5 rfl rfl rfl rfl rfl (by kernel_rfl)) (fun _ _ hL => ?_); subst hL)
    refine wl_nil ?_
    refine at_nq ?_
    refine at_then ?_
    refine wc_seq ?_
    refine wc_region ?_
    refine wl_pu (y_move rfl) rfl ?_
    refine wl_pu (y_assign rfl) rfl ?_
    refine wl_nil ?_
    refine at_then ?_
    refine wc_ret ?_
    -- at: ret
    refine at_ret1 rfl rfl ?_
    exact ⟨rfl, rfl⟩
  · skip
    refine wc_skip ?_
    refine at_then ?_
    refine wc_seq ?_
    refine wc_region ?_
    refine wl_pu (y_move rfl) rfl ?_
    refine wl_pu (y_assign rfl) rfl ?_
    refine wl_nil ?_
    refine at_then ?_
    refine wc_ret ?_
    -- at: ret
    refine at_ret1 rfl rfl ?_
    refine ⟨rfl, ?_⟩
    have h0 : (min (t.length : Int) (room - s.length)).toNat = 0 := by omega
    rw [h0]
    simp

theorem sget_spec (F : Hp) (b : Nat) (room una : Int) (s : List UInt8) (q n : Int) (hr : 1 ≤ room ∧ room ≤ 2048) (hs : (s.length : Int) ≤ room) (hn : 1 ≤ n ∧ n ≤ 2048) (hq : 0 ≤ (q - una) % 4294967296 ∧ (q - una) % 4294967296 < s.length) :
    Ctr Try.prog 20 [ptr b 0, .int .u32 q, int n] ((b, sbo room una s) :: F) (fun v L' => v = S ((s.drop ((q - una) % 4294967296).toNat).take n.toNat) ∧ L' = (b, sbo room una s) :: F) := by
  refine spec_body Try.func20 Try.ntmps20 rfl rfl ?_
  refine wc_seq ?_
  refine wc_region ?_
  refine wl_pu (y_assign rfl) rfl ?_
  refine wl_nil ?_
  refine at_then ?_
  refine wc_seq ?_
  refine wc_region ?_
  refine wl_pu (y_move rfl) rfl ?_
  -- at: op (call {callee:(value (func 19)), args:[t8], argTypes:[45]})
  refine wl_do (d_call (by kernel_rfl) rfl (suna_spec _ _ _ _ _ hr.1)) rfl ?_
  rintro _ _ ⟨rfl, rfl⟩
  refine wl_pu (y_move rfl) rfl ?_
  -- at: op (call {callee:(value (func 61)), args:[t9, t10], argTypes:[23, 23]})
  refine wl_do (d_call (by kernel_rfl) rfl (ahead_spec _ _ _)) rfl ?_
  rintro _ _ ⟨rfl, rfl⟩
  refine wl_pu (y_assign rfl) rfl ?_
  refine wl_nil ?_
  refine at_then ?_
  refine wc_seq ?_
  refine wc_seq ?_
  refine wc_region ?_
  refine wl_pu (y_move rfl) rfl ?_
  refine wl_pu (y_lss rfl rfl) rfl ?_
  refine wl_pu (y_move rfl) rfl ?_
  -- at: guard 2
  refine wl_splitD 14 rfl (fun hc => absurd hc ((by omega))) (fun _ => ?_)
  refine wl_gon rfl rfl ?_
  refine wl_pu (y_move rfl) rfl ?_
  refine wl_gon rfl rfl ?_
  refine wl_pu (y_move rfl) rfl ?_
  refine wl_gon rfl rfl ?_
  -- at: op (call {callee:(value (func 18)), args:[t16], argTypes:[45]})
  refine wl_do (d_call (by kernel_rfl) rfl (slen_spec _ _ _ _ _ hr.1)) rfl ?_
  rintro _ _ ⟨rfl, rfl⟩
  refine wl_gon rfl rfl ?_
  refine wl_pu (y_geq rfl rfl) rfl ?_
  first | refine wl_pu (y_pickT rfl rfl) rfl ?_ | refine wl_pu (y_pickF rfl rfl) rfl ?_
  refine wl_nil ?_
  refine at_then ?_
  -- at: cond
  refine wc_condD rfl (fun hc => absurd hc ((by omega))) (fun _ => ?_)
  refine wc_skip ?_
  refine at_then ?_
  refine wc_seq ?_
  -- at: draw
  apply wc_draw 18 (pl := [_, _, _, _, _, _, _, _, _, _, _, _, _, _, _, _, _, _]) (by kernel_rfl)
  rotate_left
  refine hw_pu (y_move rfl) ?_
  refine hw_pu (y_nil rfl) ?_
  first | refine hw_pu (y_fieldAddr0 2 Try.underlying138 rfl rfl (by kernel_rfl) rfl) ?_ | refine hw_pu (y_fieldAddr 2 Try.underlying138 rfl rfl (by kernel_rfl) rfl) ?_
  first | refine hw_rd (y_load 0 rfl rfl rfl (by kernel_rfl)) ?_ | refine hw_rd (y_load 1 rfl rfl rfl (by kernel_rfl)) ?_ | refine hw_rd (y_load 2 rfl rfl rfl (by kernel_rfl)) ?_ | refine hw_rd (y_load 3 rfl rfl rfl (by kernel_rfl)) ?_ | refine hw_rd (y_load 4 rfl rfl rfl (by kernel_rfl)) ?_ | refine hw_rd (y_load 5 rfl rfl rfl (by kernel_rfl)) ?_
  refine hw_pu (y_move rfl) ?_
  refine hw_pu (y_move rfl) ?_
  refine hw_pu (y_move rfl) ?_
  refine hw_pu (y_move rfl) ?_
  refine hw_pu (y_nil rfl) ?_
  first | refine hw_pu (y_fieldAddr0 2 Try.underlying138 rfl rfl (by kernel_rfl) rfl) ?_ | refine hw_pu (y_fieldAddr 2 Try.underlying138 rfl rfl (by kernel_rfl) rfl) ?_
  first | refine hw_rd (y_load 0 rfl rfl rfl (by kernel_rfl)) ?_ | refine hw_rd (y_load 1 rfl rfl rfl (by kernel_rfl)) ?_ | refine hw_rd (y_load 2 rfl rfl rfl (by kernel_rfl)) ?_ | refine hw_rd (y_load 3 rfl rfl rfl (by kernel_rfl)) ?_ | refine hw_rd (y_load 4 rfl rfl rfl (by kernel_rfl)) ?_ | refine hw_rd (y_load 5 rfl rfl rfl (by kernel_rfl)) ?_
  refine hw_pu (y_lenS Try.underlying9 rfl) ?_
  refine hw_pu (y_move rfl) ?_
  refine hw_pu (y_sub rfl rfl (by omega)) ?_
  refine hw_pu (y_min rfl rfl) ?_
  refine hw_pu (y_add rfl rfl (by omega)) ?_
  refine hw_pu (y_subS Try.underlying9 rfl rfl rfl (by omega)) ?_
  refine hw_pu (y_assign rfl) ?_
  refine hw_end [] rfl ?_
  case hB => kernel_rfl
  refine wl_nil ?_
  refine at_nq ?_
  refine at_then ?_
  refine wc_ret ?_
  -- at: ret
  refine at_ret1 rfl rfl ?_
  refine ⟨?_, rfl⟩
  generalize (q - una) % 4294967296 = k at *
  have h1 : (k + min n (s.length - k)).toNat - k.toNat = min n.toNat (s.length - k.toNat) := by omega
  rw [h1, ← List.length_drop, List.take_eq_take_iff.2]
  omega

theorem sack_no (F : Hp) (b : Nat) (room una : Int) (s : List UInt8) (q : Int) (hr : 1 ≤ room ∧ room ≤ 2048) (hq : (q - una) % 4294967296 < 1 ∨ s.length < (q - una) % 4294967296) :
    Ctr Try.prog 25 [ptr b 0, .int .u32 q] ((b, sbo room una s) :: F) (fun v L' => v = int 0 ∧ L' = (b, sbo room una s) :: F) := by
  refine spec_body Try.func25 Try.ntmps25 rfl rfl ?_
  refine wc_seq ?_
  refine wc_region ?_
  refine wl_pu (y_assign rfl) rfl ?_
  refine wl_nil ?_
  refine at_then ?_
  refine wc_seq ?_
  refine wc_region ?_
  refine wl_pu (y_move rfl) rfl ?_
  -- at: op (call {callee:(value (func 19)), args:[t6], argTypes:[45]})
  refine wl_do (d_call (by kernel_rfl) rfl (suna_spec _ _ _ _ _ hr.1)) rfl ?_
  rintro _ _ ⟨rfl, rfl⟩
  refine wl_pu (y_move rfl) rfl ?_
  -- at: op (call {callee:(value (func 61)), args:[t7, t8], argTypes:[23, 23]})
  refine wl_do (d_call (by kernel_rfl) rfl (ahead_spec _ _ _)) rfl ?_
  rintro _ _ ⟨rfl, rfl⟩
  refine wl_pu (y_assign rfl) rfl ?_
  refine wl_nil ?_
  refine at_then ?_
  refine wc_seq ?_
  refine wc_seq ?_
  refine wc_region ?_
  refine wl_pu (y_move rfl) rfl ?_
  refine wl_pu (y_lss rfl rfl) rfl ?_
  refine wl_pu (y_move rfl) rfl ?_
  -- at: guard 2
  refine wl_splitD 12 rfl (fun h => ?_) (fun h => ?_)
  · skip
    refine wl_goff rfl rfl rfl rfl ?_
    refine wl_goff rfl rfl rfl rfl ?_
    refine wl_goff rfl rfl rfl rfl ?_
    refine wl_goff rfl rfl rfl rfl ?_
    first | refine wl_pu (y_pickT rfl rfl) rfl ?_ | refine wl_pu (y_pickF rfl rfl) rfl ?_
    refine wl_nil ?_
    refine at_then ?_
    -- at: cond
    refine wc_condT rfl ?_
    refine wc_seq ?_
    refine wc_region ?_
    refine wl_pu (y_assign rfl) rfl ?_
    refine wl_nil ?_
    refine at_then ?_
    refine wc_ret ?_
    refine at_then_ret ?_
    -- at: ret
    refine at_ret1 rfl rfl ?_
    exact ⟨rfl, rfl⟩
  · skip
    refine wl_gon rfl rfl ?_
    refine wl_pu (y_move rfl) rfl ?_
    refine wl_gon rfl rfl ?_
    refine wl_pu (y_move rfl) rfl ?_
    refine wl_gon rfl rfl ?_
    -- at: op (call {callee:(value (func 18)), args:[t14], argTypes:[45]})
    refine wl_do (d_call (by kernel_rfl) rfl (slen_spec _ _ _ _ _ hr.1)) rfl ?_
    rintro _ _ ⟨rfl, rfl⟩
    refine wl_gon rfl rfl ?_
    refine wl_pu (y_gtr rfl rfl) rfl ?_
    first | refine wl_pu (y_pickT rfl rfl) rfl ?_ | refine wl_pu (y_pickF rfl rfl) rfl ?_
    refine wl_nil ?_
    refine at_then ?_
    -- at: cond
    refine wc_condD rfl (fun _ => ?_) (fun hc => absurd ((by omega)) hc)
    refine wc_seq ?_
    refine wc_region ?_
    refine wl_pu (y_assign rfl) rfl ?_
    refine wl_nil ?_
    refine at_then ?_
    refine wc_ret ?_
    refine at_then_ret ?_
    -- at: ret
    refine at_ret1 rfl rfl ?_
    exact ⟨rfl, rfl⟩

theorem sack_yes (F : Hp) (b : Nat) (room una : Int) (s : List UInt8) (q : Int) (hr : 1 ≤ room ∧ room ≤ 2048) (hq : 1 ≤ (q - una) % 4294967296 ∧ (q - una) % 4294967296 ≤ s.length) :
    Ctr Try.prog 25 [ptr b 0, .int .u32 q] ((b, sbo room una s) :: F) (fun v L' => v = int ((q - una) % 4294967296) ∧ L' = (b, sbo room q (s.drop ((q - una) % 4294967296).toNat)) :: F) := by
  refine spec_body Try.func25 Try.ntmps25 rfl rfl ?_
  refine wc_seq ?_
  refine wc_region ?_
  refine wl_pu (y_assign rfl) rfl ?_
  refine wl_nil ?_
  refine at_then ?_
  refine wc_seq ?_
  refine wc_region ?_
  refine wl_pu (y_move rfl) rfl ?_
  -- at: op (call {callee:(value (func 19)), args:[t6], argTypes:[45]})
  refine wl_do (d_call (by kernel_rfl) rfl (suna_spec _ _ _ _ _ hr.1)) rfl ?_
  rintro _ _ ⟨rfl, rfl⟩
  refine wl_pu (y_move rfl) rfl ?_
  -- at: op (call {callee:(value (func 61)), args:[t7, t8], argTypes:[23, 23]})
  refine wl_do (d_call (by kernel_rfl) rfl (ahead_spec _ _ _)) rfl ?_
  rintro _ _ ⟨rfl, rfl⟩
  refine wl_pu (y_assign rfl) rfl ?_
  refine wl_nil ?_
  refine at_then ?_
  refine wc_seq ?_
  refine wc_seq ?_
  refine wc_region ?_
  refine wl_pu (y_move rfl) rfl ?_
  refine wl_pu (y_lss rfl rfl) rfl ?_
  refine wl_pu (y_move rfl) rfl ?_
  -- at: guard 2
  refine wl_splitD 12 rfl (fun hc => absurd hc ((by omega))) (fun _ => ?_)
  refine wl_gon rfl rfl ?_
  refine wl_pu (y_move rfl) rfl ?_
  refine wl_gon rfl rfl ?_
  refine wl_pu (y_move rfl) rfl ?_
  refine wl_gon rfl rfl ?_
  -- at: op (call {callee:(value (func 18)), args:[t14], argTypes:[45]})
  refine wl_do (d_call (by kernel_rfl) rfl (slen_spec _ _ _ _ _ hr.1)) rfl ?_
  rintro _ _ ⟨rfl, rfl⟩
  refine wl_gon rfl rfl ?_
  refine wl_pu (y_gtr rfl rfl) rfl ?_
  first | refine wl_pu (y_pickT rfl rfl) rfl ?_ | refine wl_pu (y_pickF rfl rfl) rfl ?_
  refine wl_nil ?_
  refine at_then ?_
  -- at: cond
  refine wc_condD rfl (fun hc => absurd hc ((by omega))) (fun _ => ?_)
  refine wc_skip ?_
  refine at_then ?_
  refine wc_seq ?_
  refine wc_region ?_
  refine wl_pu (y_move rfl) rfl ?_
  refine wl_pu (y_move rfl) rfl ?_
  refine wl_pu (y_move rfl) rfl ?_
  refine wl_pu (y_nil rfl) rfl ?_
  first | refine wl_pu (y_fieldAddr0 2 Try.underlying138 rfl rfl (by kernel_rfl) rfl) rfl ?_ | refine wl_pu (y_fieldAddr 2 Try.underlying138 rfl rfl (by kernel_rfl) rfl) rfl ?_
  first | refine wl_rd (y_load 0 rfl rfl rfl (by kernel_rfl)) rfl ?_ | refine wl_rd (y_load 1 rfl rfl rfl (by kernel_rfl)) rfl ?_ | refine wl_rd (y_load 2 rfl rfl rfl (by kernel_rfl)) rfl ?_ | refine wl_rd (y_load 3 rfl rfl rfl (by kernel_rfl)) rfl ?_ | refine wl_rd (y_load 4 rfl rfl rfl (by kernel_rfl)) rfl ?_ | refine wl_rd (y_load 5 rfl rfl rfl (by kernel_rfl)) rfl ?_
  refine wl_pu (y_move rfl) rfl ?_
  refine wl_pu (y_fromS Try.underlying9 rfl rfl (by omega)) rfl ?_
  refine wl_pu (y_move rfl) rfl ?_
  refine wl_pu (y_nil rfl) rfl ?_
  first | refine wl_pu (y_fieldAddr0 2 Try.underlying138 rfl rfl (by kernel_rfl) rfl) rfl ?_ | refine wl_pu (y_fieldAddr 2 Try.underlying138 rfl rfl (by kernel_rfl) rfl) rfl ?_
  first | (refine wl_do0 (d_store 0 rfl rfl rfl rfl rfl (by kernel_rfl)) (fun _ _ hL => ?_); subst hL) | (refine wl_do0 (d_store 1 rfl rfl rfl rfl rfl (by kernel_rfl)) (fun _ _ hL => ?_); subst hL) | (refine wl_do0 (d_store 2 rfl rfl rfl rfl rfl (by kernel_rfl)) (fun _ _ hL => ?_); subst hL) | (refine wl_do0 (d_store 3 rfl rfl rfl rfl rfl (by kernel_rfl)) (fun _ _ hL => ?_); subst hL) | (refine wl_do0 (d_store 4 rfl rfl rfl rfl rfl (by kernel_rfl)) (fun _ _ hL => ?_); subst hL) | (refine wl_do0 (d_store 5 rfl rfl rfl rfl rfl (by kernel_rfl)) (fun _ _ hL => ?_); subst hL)
  refine wl_pu (y_nil rfl) rfl ?_
  first | refine wl_pu (y_fieldAddr0 1 Try.underlying138 rfl rfl (by kernel_rfl) rfl) rfl ?_ | refine wl_pu (y_fieldAddr 1 Try.underlying138 rfl rfl (by kernel_rfl) rfl) rfl ?_
  first | (refine wl_do0 (d_store 0 rfl rfl rfl rfl rfl (by kernel_rfl)) (fun _ _ hL => ?_); subst hL) | (refine wl_do0 (d_store 1 rfl rfl rfl rfl rfl (by kernel_rfl)) (fun _ _ hL => ?_); subst hL) | (refine wl_do0 (d_store 2 rfl rfl rfl rfl rfl (by kernel_rfl)) (fun _ _ hL => ?_); subst hL) | (refine wl_do0 (d_store 3 rfl rfl rfl rfl rfl (by kernel_rfl)) (fun _ _ hL => ?_); subst hL) | (refine wl_do0 (d_store 4 rfl rfl rfl rfl rfl (by kernel_rfl)) (fun _ _ hL => ?_); subst hL) | (refine wl_do0 (d_store 5 rfl rfl rfl rfl rfl (by kernel_rfl)) (fun _ _ hL => ?_); subst hL)
  refine wl_nil ?_
  refine at_then ?_
  refine wc_seq ?_
  refine wc_region ?_
  refine wl_pu (y_move rfl) rfl ?_
  refine wl_pu (y_assign rfl) rfl ?_
  refine wl_nil ?_
  refine at_then ?_
  refine wc_ret ?_
  -- at: ret
  refine at_ret1 rfl rfl ?_
  exact ⟨rfl, rfl⟩
end Go.Proofs.Ytkpndnjhfocheaa
