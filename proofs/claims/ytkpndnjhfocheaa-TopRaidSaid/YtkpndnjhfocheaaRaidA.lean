/- The layout of an array: what place's functions come to. -/
import Derived.Test.YtkpndnjhfocheaaSupersB
import Derived.Test.YtkpndnjhfocheaaSeqsC
import Derived.Test.YtkpndnjhfocheaaSLq
namespace Go.Proofs.Ytkpndnjhfocheaa
open Go.SL
variable {X : Inhabited SL.Outside}

section
variable {lv rw : Int} {n : Nat}
/-- Who has a row's parity; who has its d-th data. -/
def par (n : Nat) (r : Int) : Int := if n = 2 then 1 else n - 1 - (r / 2) % n
def dat (n : Nat) (r : Int) (d : Int) : Int := (par n r + 1 + d) % n
theorem GOk.mem3 (h : GOk lv n rw) : 2 ≤ n ∧ n ≤ 4 ∧ (lv = 1 ↔ n = 2) := by have := h.sh; omega
theorem par_lo (h : GOk lv n rw) (r : Int) : 0 ≤ par n r ∧ par n r < n := by
  have hn := h.mem3
  unfold par
  split
  · omega
  · have h1 := Int.emod_nonneg (r / 2) (b := (n : Int)) (by omega)
    have h2 := Int.emod_lt_of_pos (r / 2) (b := (n : Int)) (by omega)
    omega
theorem dat_lo (h : GOk lv n rw) (r d : Int) : 0 ≤ dat n r d ∧ dat n r d < n := by
  have hn := h.mem3
  exact ⟨Int.emod_nonneg _ (by omega), Int.emod_lt_of_pos _ (by omega)⟩

theorem row_spec (F : Hp) (h : GOk lv n rw) (r : Int) : Ctr Try.prog 183 [.agg ⟨geo lv n rw⟩, int r] F (fun v L' => v = .bool (decide (0 ≤ r ∧ r < rw)) ∧ L' = F) := by
  refine spec_body Try.func183 Try.ntmps183 rfl rfl ?_
  refine wc_seq ?_
  refine wc_region ?_
  refine wl_do (d_box rfl) rfl ?_
  rintro _ _ ⟨bNEW, rfl, rfl⟩
  refine wl_pu (y_assign rfl) rfl ?_
  refine wl_nil ?_
  refine at_then ?_
  refine wc_seq ?_
  refine wc_region ?_
  refine wl_rd (y_loadAgg (k := 3) (vs := geo lv n rw) 0 rfl rfl rfl rfl (by kernel_rfl) (by kernel_rfl)) rfl ?_
  -- at: op (call {callee:(value (func 122)), args:[t5], argTypes:[72]})
  refine wl_do (d_call (by kernel_rfl) rfl (gright_spec _ lv n rw h)) rfl ?_
  rintro _ _ ⟨rfl, rfl⟩
  refine wl_pu (y_move rfl) rfl ?_
  -- at: guard 2
  refine wl_gon rfl rfl ?_
  refine wl_pu (y_move rfl) rfl ?_
  refine wl_gon rfl rfl ?_
  refine wl_pu (y_geq rfl rfl) rfl ?_
  first | refine wl_pu (y_pickT rfl rfl) rfl ?_ | refine wl_pu (y_pickF rfl rfl) rfl ?_
  refine wl_pu (y_move rfl) rfl ?_
  -- at: guard 6
  refine wl_splitD 11 rfl (fun h0 => ?_) (fun h0 => ?_)
  · skip
    refine wl_gon rfl rfl ?_
    refine wl_pu (y_move rfl) rfl ?_
    refine wl_gon rfl rfl ?_
    first | refine wl_pu (y_fieldAddr0 2 Try.underlying72 rfl rfl (by kernel_rfl) rfl) rfl ?_ | refine wl_pu (y_fieldAddr 2 Try.underlying72 rfl rfl (by kernel_rfl) rfl) rfl ?_
    refine wl_gon rfl rfl ?_
    first | refine wl_rd (y_load 0 rfl rfl rfl (by kernel_rfl)) rfl ?_ | refine wl_rd (y_load 1 rfl rfl rfl (by kernel_rfl)) rfl ?_ | refine wl_rd (y_load 2 rfl rfl rfl (by kernel_rfl)) rfl ?_ | refine wl_rd (y_load 3 rfl rfl rfl (by kernel_rfl)) rfl ?_ | refine wl_rd (y_load 4 rfl rfl rfl (by kernel_rfl)) rfl ?_ | refine wl_rd (y_load 5 rfl rfl rfl (by kernel_rfl)) rfl ?_
    refine wl_gon rfl rfl ?_
    refine wl_pu (y_lss rfl rfl) rfl ?_
    first | refine wl_pu (y_pickT rfl rfl) rfl ?_ | refine wl_pu (y_pickF rfl rfl) rfl ?_
    refine wl_pu (y_assign rfl) rfl ?_
    refine wl_nil ?_
    refine at_then ?_
    refine wc_ret ?_
    -- at: ret
    refine at_drop ?_
    refine at_ret1 rfl rfl ?_
    exact ⟨by congr 1; simp [h0], rfl⟩
  · skip
    refine wl_goff rfl rfl rfl rfl ?_
    refine wl_goff rfl rfl rfl rfl ?_
    refine wl_goff rfl rfl rfl rfl ?_
    refine wl_goff rfl rfl rfl rfl ?_
    first | refine wl_pu (y_pickT rfl rfl) rfl ?_ | refine wl_pu (y_pickF rfl rfl) rfl ?_
    refine wl_pu (y_assign rfl) rfl ?_
    refine wl_nil ?_
    refine at_then ?_
    refine wc_ret ?_
    -- at: ret
    refine at_drop ?_
    refine at_ret1 rfl rfl ?_
    exact ⟨by congr 1; simp; omega, rfl⟩

theorem parity_spec (F : Hp) (h : GOk lv n rw) (r : Int) (hr : 0 ≤ r ∧ r < rw) : Ctr Try.prog 137 [.agg ⟨geo lv n rw⟩, int r] F (fun v L' => v = .tuple #[int (par n r), .bool true] ∧ L' = F) := by
  have hn := h.mem3
  have hlo := h.lo
  have hhi := h.hi
  have he1 := Int.emod_nonneg (r / 2) (b := (n : Int)) (by omega)
  have he2 := Int.emod_lt_of_pos (r / 2) (b := (n : Int)) (by omega)
  refine spec_body Try.func137 Try.ntmps137 rfl rfl ?_
  refine wc_seq ?_
  refine wc_region ?_
  refine wl_do (d_box rfl) rfl ?_
  rintro _ _ ⟨bNEW, rfl, rfl⟩
  refine wl_pu (y_assign rfl) rfl ?_
  refine wl_pu (y_assign rfl) rfl ?_
  refine wl_nil ?_
  refine at_then ?_
  refine wc_seq ?_
  refine wc_block ?_
  refine wc_seq ?_
  refine wc_region ?_
  refine wl_rd (y_loadAgg (k := 3) (vs := geo lv n rw) 0 rfl rfl rfl rfl (by kernel_rfl) (by kernel_rfl)) rfl ?_
  refine wl_pu (y_move rfl) rfl ?_
  -- at: op (call {callee:(value (func 183)), args:[t7, t8], argTypes:[72, 3]})
  refine wl_do (d_call (by kernel_rfl) rfl (row_spec _ h r)) rfl ?_
  rintro _ _ ⟨rfl, rfl⟩
  refine wl_pu (y_not rfl) rfl ?_
  refine wl_pu (y_assign rfl) rfl ?_
  refine wl_nil ?_
  refine at_then ?_
  -- at: cond
  refine wc_condD rfl (fun hc => absurd hc ((fun hc => hc hr))) (fun _ => ?_)
  refine wc_seq ?_
  refine wc_region ?_
  first | refine wl_pu (y_fieldAddr0 0 Try.underlying72 rfl rfl (by kernel_rfl) rfl) rfl ?_ | refine wl_pu (y_fieldAddr 0 Try.underlying72 rfl rfl (by kernel_rfl) rfl) rfl ?_
  first | refine wl_rd (y_load 0 rfl rfl rfl (by kernel_rfl)) rfl ?_ | refine wl_rd (y_load 1 rfl rfl rfl (by kernel_rfl)) rfl ?_ | refine wl_rd (y_load 2 rfl rfl rfl (by kernel_rfl)) rfl ?_ | refine wl_rd (y_load 3 rfl rfl rfl (by kernel_rfl)) rfl ?_ | refine wl_rd (y_load 4 rfl rfl rfl (by kernel_rfl)) rfl ?_ | refine wl_rd (y_load 5 rfl rfl rfl (by kernel_rfl)) rfl ?_
  refine wl_pu (y_eql rfl rfl) rfl ?_
  refine wl_pu (y_assign rfl) rfl ?_
  refine wl_nil ?_
  refine at_then ?_
  -- at: cond
  refine wc_condD rfl (fun h1 => ?_) (fun h1 => ?_)
  · skip
    refine wc_seq ?_
    refine wc_region ?_
    refine wl_pu (y_assign rfl) rfl ?_
    refine wl_pu (y_assign rfl) rfl ?_
    refine wl_nil ?_
    refine at_then ?_
    refine wc_ret ?_
    refine at_block_ret ?_
    refine at_then_ret ?_
    -- at: ret
    refine at_drop ?_
    refine at_ret2 rfl rfl rfl ?_
    exact ⟨by rw [par, if_pos (hn.2.2.1 h1)], rfl⟩
  · skip
    refine wc_skip ?_
    refine at_block_normal ?_
    refine at_then ?_
    refine wc_seq ?_
    -- at: draw
    apply wc_draw 11 (pl := [_, _, _, _, _, _, _, _, _, _, _]) (by kernel_rfl)
    rotate_left
    first | refine hw_pu (y_fieldAddr0 1 Try.underlying72 rfl rfl (by kernel_rfl) rfl) ?_ | refine hw_pu (y_fieldAddr 1 Try.underlying72 rfl rfl (by kernel_rfl) rfl) ?_
    first | refine hw_rd (y_load 0 rfl rfl rfl (by kernel_rfl)) ?_ | refine hw_rd (y_load 1 rfl rfl rfl (by kernel_rfl)) ?_ | refine hw_rd (y_load 2 rfl rfl rfl (by kernel_rfl)) ?_ | refine hw_rd (y_load 3 rfl rfl rfl (by kernel_rfl)) ?_ | refine hw_rd (y_load 4 rfl rfl rfl (by kernel_rfl)) ?_ | refine hw_rd (y_load 5 rfl rfl rfl (by kernel_rfl)) ?_
    refine hw_pu (y_sub rfl rfl (by omega)) ?_
    refine hw_pu (y_move rfl) ?_
    refine hw_pu (y_quo rfl rfl (by omega)) ?_
    first | refine hw_pu (y_fieldAddr0 1 Try.underlying72 rfl rfl (by kernel_rfl) rfl) ?_ | refine hw_pu (y_fieldAddr 1 Try.underlying72 rfl rfl (by kernel_rfl) rfl) ?_
    first | refine hw_rd (y_load 0 rfl rfl rfl (by kernel_rfl)) ?_ | refine hw_rd (y_load 1 rfl rfl rfl (by kernel_rfl)) ?_ | refine hw_rd (y_load 2 rfl rfl rfl (by kernel_rfl)) ?_ | refine hw_rd (y_load 3 rfl rfl rfl (by kernel_rfl)) ?_ | refine hw_rd (y_load 4 rfl rfl rfl (by kernel_rfl)) ?_ | refine hw_rd (y_load 5 rfl rfl rfl (by kernel_rfl)) ?_
    refine hw_pu (y_rem rfl rfl (by omega)) ?_
    refine hw_pu (y_sub rfl rfl (by omega)) ?_
    refine hw_pu (y_assign rfl) ?_
    refine hw_pu (y_assign rfl) ?_
    refine hw_end [] rfl ?_
    case hB => kernel_rfl
    refine wl_nil ?_
    refine at_nq ?_
    refine at_then ?_
    refine wc_ret ?_
    -- at: ret
    refine at_drop ?_
    refine at_ret2 rfl rfl rfl ?_
    exact ⟨by rw [par, if_neg (fun hc => h1 (hn.2.2.2 hc))], rfl⟩

theorem size_spec (F : Hp) (h : GOk lv n rw) : Ctr Try.prog 90 [.agg ⟨geo lv n rw⟩] F (fun v L' => v = int (rw * (n - 1)) ∧ L' = F) := by
  have hn := h.mem3
  have hlo := h.lo
  have hhi := h.hi
  refine spec_body Try.func90 Try.ntmps90 rfl rfl ?_
  refine wc_seq ?_
  refine wc_region ?_
  refine wl_do (d_box rfl) rfl ?_
  rintro _ _ ⟨bNEW, rfl, rfl⟩
  refine wl_pu (y_assign rfl) rfl ?_
  refine wl_nil ?_
  refine at_then ?_
  refine wc_seq ?_
  refine wc_seq ?_
  refine wc_region ?_
  refine wl_rd (y_loadAgg (k := 3) (vs := geo lv n rw) 0 rfl rfl rfl rfl (by kernel_rfl) (by kernel_rfl)) rfl ?_
  -- at: op (call {callee:(value (func 122)), args:[t3], argTypes:[72]})
  refine wl_do (d_call (by kernel_rfl) rfl (gright_spec _ lv n rw h)) rfl ?_
  rintro _ _ ⟨rfl, rfl⟩
  first | refine wl_pu (y_notT rfl) rfl ?_ | refine wl_pu (y_notF rfl) rfl ?_ | refine wl_pu (y_not rfl) rfl ?_ | refine wl_pu (y_notB rfl) rfl ?_
  refine wl_nil ?_
  refine at_then ?_
  -- at: cond
  refine wc_condF rfl ?_
  have hm : 0 ≤ rw * ((n : Int) - 1) ∧ rw * ((n : Int) - 1) ≤ 256 := by
    have h1 : 0 ≤ (n : Int) - 1 := by omega
    have h2 := Int.mul_nonneg (show 0 ≤ rw by omega) h1
    have h3 : rw * ((n : Int) - 1) ≤ 64 * 3 := Int.mul_le_mul (by omega) (by omega) h1 (by omega)
    omega
  refine wc_skip ?_
  refine at_then ?_
  refine wc_seq ?_
  refine wc_region ?_
  first | refine wl_pu (y_fieldAddr0 2 Try.underlying72 rfl rfl (by kernel_rfl) rfl) rfl ?_ | refine wl_pu (y_fieldAddr 2 Try.underlying72 rfl rfl (by kernel_rfl) rfl) rfl ?_
  first | refine wl_rd (y_load 0 rfl rfl rfl (by kernel_rfl)) rfl ?_ | refine wl_rd (y_load 1 rfl rfl rfl (by kernel_rfl)) rfl ?_ | refine wl_rd (y_load 2 rfl rfl rfl (by kernel_rfl)) rfl ?_ | refine wl_rd (y_load 3 rfl rfl rfl (by kernel_rfl)) rfl ?_ | refine wl_rd (y_load 4 rfl rfl rfl (by kernel_rfl)) rfl ?_ | refine wl_rd (y_load 5 rfl rfl rfl (by kernel_rfl)) rfl ?_
  first | refine wl_pu (y_fieldAddr0 1 Try.underlying72 rfl rfl (by kernel_rfl) rfl) rfl ?_ | refine wl_pu (y_fieldAddr 1 Try.underlying72 rfl rfl (by kernel_rfl) rfl) rfl ?_
  first | refine wl_rd (y_load 0 rfl rfl rfl (by kernel_rfl)) rfl ?_ | refine wl_rd (y_load 1 rfl rfl rfl (by kernel_rfl)) rfl ?_ | refine wl_rd (y_load 2 rfl rfl rfl (by kernel_rfl)) rfl ?_ | refine wl_rd (y_load 3 rfl rfl rfl (by kernel_rfl)) rfl ?_ | refine wl_rd (y_load 4 rfl rfl rfl (by kernel_rfl)) rfl ?_ | refine wl_rd (y_load 5 rfl rfl rfl (by kernel_rfl)) rfl ?_
  refine wl_pu (y_sub rfl rfl (by omega)) rfl ?_
  refine wl_pu (y_mul rfl rfl (by omega)) rfl ?_
  refine wl_pu (y_assign rfl) rfl ?_
  refine wl_nil ?_
  refine at_then ?_
  refine wc_ret ?_
  -- at: ret
  refine at_drop ?_
  refine at_ret1 rfl rfl ?_
  exact ⟨rfl, rfl⟩

/-- A row's data members. -/
def dats (n : Nat) (r : Int) : List Int := (List.range (n - 1)).map fun d : Nat => dat n r d
theorem dats_len (n : Nat) (r : Int) : (dats n r).length = n - 1 := by simp [dats]
theorem data_spec (F : Hp) (h : GOk lv n rw) (r : Int) (hr : 0 ≤ r ∧ r < rw) : Ctr Try.prog 93 [.agg ⟨geo lv n rw⟩, int r] F (fun v L' => ∃ fr, SlF 3 1 v (n - 1) ((dats n r).map int) fr ∧ L' = fr ++ F) := by
  have hn := h.mem3
  have hlo := h.lo
  have hhi := h.hi
  have hp := par_lo h r
  refine spec_body Try.func93 Try.ntmps93 rfl rfl ?_
  refine wc_seq ?_
  refine wc_region ?_
  refine wl_do (d_box rfl) rfl ?_
  rintro _ _ ⟨bNEW, rfl, rfl⟩
  refine wl_pu (y_assign rfl) rfl ?_
  refine wl_nil ?_
  refine at_then ?_
  refine wc_seq ?_
  refine wc_region ?_
  refine wl_rd (y_loadAgg (k := 3) (vs := geo lv n rw) 0 rfl rfl rfl rfl (by kernel_rfl) (by kernel_rfl)) rfl ?_
  refine wl_pu (y_move rfl) rfl ?_
  -- at: op (call {callee:(value (func 137)), args:[t10, t11], argTypes:[72, 3]})
  refine wl_do (d_call (by kernel_rfl) rfl (parity_spec _ h r hr)) rfl ?_
  rintro _ _ ⟨rfl, rfl⟩
  refine wl_pu (y_move rfl) rfl ?_
  refine wl_pu (y_extract rfl rfl) rfl ?_
  refine wl_pu (y_extract rfl rfl) rfl ?_
  refine wl_pu (y_assign rfl) rfl ?_
  refine wl_pu (y_assign rfl) rfl ?_
  refine wl_nil ?_
  refine at_then ?_
  refine wc_seq ?_
  refine wc_seq ?_
  refine wc_region ?_
  refine wl_pu (y_move rfl) rfl ?_
  first | refine wl_pu (y_notT rfl) rfl ?_ | refine wl_pu (y_notF rfl) rfl ?_ | refine wl_pu (y_not rfl) rfl ?_ | refine wl_pu (y_notB rfl) rfl ?_
  refine wl_nil ?_
  refine at_then ?_
  -- at: cond
  refine wc_condF rfl ?_
  refine wc_skip ?_
  refine at_then ?_
  refine wc_seq ?_
  refine wc_region ?_
  refine wl_pu (y_assign rfl) rfl ?_
  refine wl_nil ?_
  refine at_then ?_
  refine wc_seq ?_
  refine wc_seq ?_
  refine wc_region ?_
  first | refine wl_pu (y_fieldAddr0 1 Try.underlying72 rfl rfl (by kernel_rfl) rfl) rfl ?_ | refine wl_pu (y_fieldAddr 1 Try.underlying72 rfl rfl (by kernel_rfl) rfl) rfl ?_
  first | refine wl_rd (y_load 0 rfl rfl rfl (by kernel_rfl)) rfl ?_ | refine wl_rd (y_load 1 rfl rfl rfl (by kernel_rfl)) rfl ?_ | refine wl_rd (y_load 2 rfl rfl rfl (by kernel_rfl)) rfl ?_ | refine wl_rd (y_load 3 rfl rfl rfl (by kernel_rfl)) rfl ?_ | refine wl_rd (y_load 4 rfl rfl rfl (by kernel_rfl)) rfl ?_ | refine wl_rd (y_load 5 rfl rfl rfl (by kernel_rfl)) rfl ?_
  refine wl_pu (y_sub rfl rfl (by omega)) rfl ?_
  refine wl_pu (y_move rfl) rfl ?_
  refine wl_nil ?_
  refine at_then ?_
  refine wc_block ?_
  -- at: loop
  refine wc_loop (σ := Nat × Value × Hp) (fun s => s.1 ≤ n - 1 ∧ SlF 3 1 s.2.1 s.1 (((List.range s.1).map fun d : Nat => dat n r d).map int) s.2.2) (fun s => n - 1 - s.1)
    (fun s => [(2, ptr bNEW 0), (5, int (par n r)), (7, s.2.1), (19, int ((n : Int) - 1)), (20, int (s.1 : Int))]) (fun s => (bNEW, row 72 (geo lv n rw)) :: (s.2.2 ++ F)) (0, .slice none 0 0, []) ⟨by simp, .nil⟩ ⟨rfl, rfl, rfl, rfl, rfl, trivial⟩ rfl ?_
  rintro ⟨d, v, fr⟩ ⟨hd, hS⟩
  simp only [] at hd hS
  show WC _ _ _ _ [(2, ptr bNEW 0), (5, int (par n r)), (7, v), (19, int ((n : Int) - 1)), (20, int (d : Int))] ((bNEW, row 72 (geo lv n rw)) :: (fr ++ F))
  refine wc_seq ?_
  refine wc_region ?_
  refine wl_pu (y_lss rfl rfl) rfl ?_
  refine wl_nil ?_
  refine at_then ?_
  refine wc_seq ?_
  -- at: cond
  refine wc_condD rfl (fun hdn => ?_) (fun hdn => ?_)
  · skip
    refine wc_skip ?_
    refine at_then ?_
    refine wc_seq ?_
    refine wc_block ?_
    refine wc_seq ?_
    refine wc_region ?_
    refine wl_pu (y_move rfl) rfl ?_
    refine wl_pu (y_assign rfl) rfl ?_
    refine wl_nil ?_
    refine at_then ?_
    refine wc_region ?_
    refine wl_pu (y_move rfl) rfl ?_
    refine wl_pu (y_move rfl) rfl ?_
    refine wl_pu (y_add rfl rfl (by omega)) rfl ?_
    refine wl_pu (y_move rfl) rfl ?_
    refine wl_pu (y_add rfl rfl (by omega)) rfl ?_
    first | refine wl_pu (y_fieldAddr0 1 Try.underlying72 rfl rfl (by kernel_rfl) rfl) rfl ?_ | refine wl_pu (y_fieldAddr 1 Try.underlying72 rfl rfl (by kernel_rfl) rfl) rfl ?_
    first | refine wl_rd (y_load 0 rfl rfl rfl (by kernel_rfl)) rfl ?_ | refine wl_rd (y_load 1 rfl rfl rfl (by kernel_rfl)) rfl ?_ | refine wl_rd (y_load 2 rfl rfl rfl (by kernel_rfl)) rfl ?_ | refine wl_rd (y_load 3 rfl rfl rfl (by kernel_rfl)) rfl ?_ | refine wl_rd (y_load 4 rfl rfl rfl (by kernel_rfl)) rfl ?_ | refine wl_rd (y_load 5 rfl rfl rfl (by kernel_rfl)) rfl ?_
    refine wl_pu (y_rem rfl rfl (by omega)) rfl ?_
    -- at: op (buildSlice 74 1 [(0, t30)])
    refine wl_do (d_buildSlice [int (dat n r d)] Try.underlying74 rfl (built1 rfl)) rfl ?_
    rintro _ _ ⟨b1, rfl, rfl⟩
    refine wl_perm (L' := fr ++ ((b1, row 3 [int (dat n r d)]) :: (bNEW, row 72 (geo lv n rw)) :: F)) ((List.Perm.cons _ perm_mid.symm).trans perm_mid.symm) ?_
    refine wl_do (d_append (sz := 1) (bytes := 8) (L0 := (b1, row 3 [int (dat n r d)]) :: (bNEW, row 72 (geo lv n rw)) :: F) 0 (int 0) Try.underlying74 (by kernel_rfl) rfl rfl rfl hS rfl rfl (news := [int (dat n r d)]) rfl rfl rfl (by omega) (by omega)) rfl ?_
    rintro v' _ ⟨fr', hS', rfl⟩
    refine wl_perm (L' := (b1, row 3 [int (dat n r d)]) :: (bNEW, row 72 (geo lv n rw)) :: (fr' ++ F)) (perm_mid.trans (List.Perm.cons _ perm_mid)) ?_
    refine wl_drop ?_
    refine wl_pu (y_assign rfl) rfl ?_
    refine wl_nil ?_
    refine at_block_normal ?_
    refine at_then ?_
    refine wc_region ?_
    refine wl_pu (y_add rfl rfl (by omega)) rfl ?_
    refine wl_pu (y_move rfl) rfl ?_
    refine wl_nil ?_
    -- at: round
    exact at_again (d + 1, v', fr') ⟨by show d + 1 ≤ n - 1; omega, by simpa [List.range_succ] using hS'⟩ (by show n - 1 - (d + 1) < n - 1 - d; omega) ⟨rfl, rfl, rfl, rfl, rfl, trivial⟩ rfl
  · skip
    have hde : d = n - 1 := by omega
    subst hde
    refine wc_exit ?_
    refine at_then_exit ?_
    refine at_then_exit ?_
    refine at_block_same ?_
    refine at_then ?_
    refine wc_seq ?_
    refine wc_region ?_
    refine wl_pu (y_move rfl) rfl ?_
    refine wl_pu (y_assign rfl) rfl ?_
    refine wl_nil ?_
    refine at_then ?_
    refine wc_ret ?_
    -- at: ret
    refine at_drop ?_
    refine at_ret1 rfl rfl ?_
    exact ⟨fr, hS, rfl⟩
end
end Go.Proofs.Ytkpndnjhfocheaa
