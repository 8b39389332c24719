/- The superblock's checks: what each comes to for a right one. -/
import Derived.Test.YtkpndnjhfocheaaSupersA
import Derived.Test.YtkpndnjhfocheaaSLk
namespace Go.Proofs.Ytkpndnjhfocheaa
open Go.SL
variable {X : Inhabited SL.Outside}

/-- A right shape. -/
structure GOk (lv mb rw : Int) : Prop where
  sh : (lv = 1 ∧ mb = 2) ∨ (lv = 5 ∧ mb = 3) ∨ (lv = 5 ∧ mb = 4)
  lo : 2 ≤ rw
  hi : rw ≤ 64
  ev : rw % 2 = 0
abbrev geo (lv mb rw : Int) : List Value := [int lv, int mb, int rw]


theorem gright_spec (L : Hp) (lv mb rw : Int) (h : GOk lv mb rw) : Ctr Try.prog 122 [.agg ⟨geo lv mb rw⟩] L (fun v L' => v = .bool true ∧ L' = L) := by
  obtain ⟨hs, h0, h1, h2⟩ := h
  refine spec_body Try.func122 Try.ntmps122 rfl rfl ?_
  refine wc_seq ?_
  refine wc_region ?_
  refine wl_do (d_box rfl) rfl ?_
  rintro _ _ ⟨bNEW, rfl, rfl⟩
  refine wl_pu (y_assign rfl) rfl ?_
  refine wl_nil ?_
  refine at_then ?_
  refine wc_seq ?_
  refine wc_region ?_
  first | refine wl_pu (y_fieldAddr0 0 Try.underlying72 rfl rfl (by kernel_rfl) rfl) rfl ?_ | refine wl_pu (y_fieldAddr 0 Try.underlying72 rfl rfl (by kernel_rfl) rfl) rfl ?_
  first | refine wl_rd (y_load 0 rfl rfl rfl (by kernel_rfl)) rfl ?_ | refine wl_rd (y_load 1 rfl rfl rfl (by kernel_rfl)) rfl ?_ | refine wl_rd (y_load 2 rfl rfl rfl (by kernel_rfl)) rfl ?_ | refine wl_rd (y_load 3 rfl rfl rfl (by kernel_rfl)) rfl ?_ | refine wl_rd (y_load 4 rfl rfl rfl (by kernel_rfl)) rfl ?_ | refine wl_rd (y_load 5 rfl rfl rfl (by kernel_rfl)) rfl ?_
  refine wl_pu (y_eql rfl rfl) rfl ?_
  refine wl_pu (y_move rfl) rfl ?_
  -- at: guard 3
  rcases hs with ⟨rfl, rfl⟩ | ⟨rfl, rfl⟩ | ⟨rfl, rfl⟩
  · skip
    refine wl_splitD 7 rfl (fun _ => ?_) (fun hc => absurd ((by omega)) hc)
    refine wl_gon rfl rfl ?_
    first | refine wl_pu (y_fieldAddr0 1 Try.underlying72 rfl rfl (by kernel_rfl) rfl) rfl ?_ | refine wl_pu (y_fieldAddr 1 Try.underlying72 rfl rfl (by kernel_rfl) rfl) rfl ?_
    refine wl_gon rfl rfl ?_
    first | refine wl_rd (y_load 0 rfl rfl rfl (by kernel_rfl)) rfl ?_ | refine wl_rd (y_load 1 rfl rfl rfl (by kernel_rfl)) rfl ?_ | refine wl_rd (y_load 2 rfl rfl rfl (by kernel_rfl)) rfl ?_ | refine wl_rd (y_load 3 rfl rfl rfl (by kernel_rfl)) rfl ?_ | refine wl_rd (y_load 4 rfl rfl rfl (by kernel_rfl)) rfl ?_ | refine wl_rd (y_load 5 rfl rfl rfl (by kernel_rfl)) rfl ?_
    refine wl_gon rfl rfl ?_
    refine wl_pu (y_eql rfl rfl) rfl ?_
    first | refine wl_pu (y_pickT rfl rfl) rfl ?_ | refine wl_pu (y_pickF rfl rfl) rfl ?_
    refine wl_pu (y_move rfl) rfl ?_
    -- at: guard 8
    refine wl_splitD 12 rfl (fun _ => ?_) (fun hc => absurd ((by omega)) hc)
    refine wl_goff rfl rfl rfl rfl ?_
    refine wl_goff rfl rfl rfl rfl ?_
    refine wl_goff rfl rfl rfl rfl ?_
    refine wl_goff rfl rfl rfl rfl ?_
    refine wl_goffU rfl rfl rfl ?_
    refine wl_goffU rfl rfl rfl ?_
    refine wl_goffU rfl rfl rfl ?_
    refine wl_goffU rfl rfl rfl ?_
    refine wl_goffU rfl rfl rfl ?_
    refine wl_goffU rfl rfl rfl ?_
    refine wl_goffU rfl rfl rfl ?_
    refine wl_goffU rfl rfl rfl ?_
    refine wl_goff rfl rfl rfl rfl ?_
    first | refine wl_pu (y_pickT rfl rfl) rfl ?_ | refine wl_pu (y_pickF rfl rfl) rfl ?_
    refine wl_pu (y_assign rfl) rfl ?_
    refine wl_nil ?_
    refine at_then ?_
    refine wc_seq ?_
    refine wc_region ?_
    refine wl_pu (y_move rfl) rfl ?_
    refine wl_pu (y_move rfl) rfl ?_
    -- at: guard 1
    refine wl_splitD 28 rfl (fun _ => ?_) (fun hc => absurd ((by omega)) hc)
    refine wl_gon rfl rfl ?_
    first | refine wl_pu (y_fieldAddr0 2 Try.underlying72 rfl rfl (by kernel_rfl) rfl) rfl ?_ | refine wl_pu (y_fieldAddr 2 Try.underlying72 rfl rfl (by kernel_rfl) rfl) rfl ?_
    refine wl_gon rfl rfl ?_
    first | refine wl_rd (y_load 0 rfl rfl rfl (by kernel_rfl)) rfl ?_ | refine wl_rd (y_load 1 rfl rfl rfl (by kernel_rfl)) rfl ?_ | refine wl_rd (y_load 2 rfl rfl rfl (by kernel_rfl)) rfl ?_ | refine wl_rd (y_load 3 rfl rfl rfl (by kernel_rfl)) rfl ?_ | refine wl_rd (y_load 4 rfl rfl rfl (by kernel_rfl)) rfl ?_ | refine wl_rd (y_load 5 rfl rfl rfl (by kernel_rfl)) rfl ?_
    refine wl_gon rfl rfl ?_
    refine wl_pu (y_geq rfl rfl) rfl ?_
    first | refine wl_pu (y_pickT rfl rfl) rfl ?_ | refine wl_pu (y_pickF rfl rfl) rfl ?_
    refine wl_pu (y_move rfl) rfl ?_
    -- at: guard 6
    refine wl_splitD 33 rfl (fun _ => ?_) (fun hc => absurd ((by omega)) hc)
    refine wl_gon rfl rfl ?_
    first | refine wl_pu (y_fieldAddr0 2 Try.underlying72 rfl rfl (by kernel_rfl) rfl) rfl ?_ | refine wl_pu (y_fieldAddr 2 Try.underlying72 rfl rfl (by kernel_rfl) rfl) rfl ?_
    refine wl_gon rfl rfl ?_
    first | refine wl_rd (y_load 0 rfl rfl rfl (by kernel_rfl)) rfl ?_ | refine wl_rd (y_load 1 rfl rfl rfl (by kernel_rfl)) rfl ?_ | refine wl_rd (y_load 2 rfl rfl rfl (by kernel_rfl)) rfl ?_ | refine wl_rd (y_load 3 rfl rfl rfl (by kernel_rfl)) rfl ?_ | refine wl_rd (y_load 4 rfl rfl rfl (by kernel_rfl)) rfl ?_ | refine wl_rd (y_load 5 rfl rfl rfl (by kernel_rfl)) rfl ?_
    refine wl_gon rfl rfl ?_
    refine wl_pu (y_leq rfl rfl) rfl ?_
    first | refine wl_pu (y_pickT rfl rfl) rfl ?_ | refine wl_pu (y_pickF rfl rfl) rfl ?_
    refine wl_pu (y_move rfl) rfl ?_
    -- at: guard 11
    refine wl_splitD 38 rfl (fun _ => ?_) (fun hc => absurd ((by omega)) hc)
    refine wl_gon rfl rfl ?_
    first | refine wl_pu (y_fieldAddr0 2 Try.underlying72 rfl rfl (by kernel_rfl) rfl) rfl ?_ | refine wl_pu (y_fieldAddr 2 Try.underlying72 rfl rfl (by kernel_rfl) rfl) rfl ?_
    refine wl_gon rfl rfl ?_
    first | refine wl_rd (y_load 0 rfl rfl rfl (by kernel_rfl)) rfl ?_ | refine wl_rd (y_load 1 rfl rfl rfl (by kernel_rfl)) rfl ?_ | refine wl_rd (y_load 2 rfl rfl rfl (by kernel_rfl)) rfl ?_ | refine wl_rd (y_load 3 rfl rfl rfl (by kernel_rfl)) rfl ?_ | refine wl_rd (y_load 4 rfl rfl rfl (by kernel_rfl)) rfl ?_ | refine wl_rd (y_load 5 rfl rfl rfl (by kernel_rfl)) rfl ?_
    refine wl_gon rfl rfl ?_
    refine wl_pu (y_rem rfl rfl (by omega)) rfl ?_
    refine wl_gon rfl rfl ?_
    refine wl_pu (y_eql rfl rfl) rfl ?_
    first | refine wl_pu (y_pickT rfl rfl) rfl ?_ | refine wl_pu (y_pickF rfl rfl) rfl ?_
    refine wl_pu (y_assign rfl) rfl ?_
    refine wl_nil ?_
    refine at_then ?_
    refine wc_ret ?_
    -- at: ret
    refine at_drop ?_
    refine at_ret1 rfl rfl ?_
    exact ⟨by congr 1; simp; omega, rfl⟩
  · skip
    refine wl_splitD 7 rfl (fun hc => absurd hc ((by omega))) (fun _ => ?_)
    refine wl_goff rfl rfl rfl rfl ?_
    refine wl_goff rfl rfl rfl rfl ?_
    refine wl_goff rfl rfl rfl rfl ?_
    first | refine wl_pu (y_pickT rfl rfl) rfl ?_ | refine wl_pu (y_pickF rfl rfl) rfl ?_
    refine wl_pu (y_move rfl) rfl ?_
    -- at: guard 8
    refine wl_gon rfl rfl ?_
    first | refine wl_pu (y_fieldAddr0 0 Try.underlying72 rfl rfl (by kernel_rfl) rfl) rfl ?_ | refine wl_pu (y_fieldAddr 0 Try.underlying72 rfl rfl (by kernel_rfl) rfl) rfl ?_
    refine wl_gon rfl rfl ?_
    first | refine wl_rd (y_load 0 rfl rfl rfl (by kernel_rfl)) rfl ?_ | refine wl_rd (y_load 1 rfl rfl rfl (by kernel_rfl)) rfl ?_ | refine wl_rd (y_load 2 rfl rfl rfl (by kernel_rfl)) rfl ?_ | refine wl_rd (y_load 3 rfl rfl rfl (by kernel_rfl)) rfl ?_ | refine wl_rd (y_load 4 rfl rfl rfl (by kernel_rfl)) rfl ?_ | refine wl_rd (y_load 5 rfl rfl rfl (by kernel_rfl)) rfl ?_
    refine wl_gon rfl rfl ?_
    refine wl_pu (y_eql rfl rfl) rfl ?_
    refine wl_gon rfl rfl ?_
    refine wl_pu (y_move rfl) rfl ?_
    -- at: guard 12
    refine wl_splitD 16 rfl (fun _ => ?_) (fun hc => absurd ((by omega)) hc)
    refine wl_gon rfl rfl ?_
    first | refine wl_pu (y_fieldAddr0 1 Try.underlying72 rfl rfl (by kernel_rfl) rfl) rfl ?_ | refine wl_pu (y_fieldAddr 1 Try.underlying72 rfl rfl (by kernel_rfl) rfl) rfl ?_
    refine wl_gon rfl rfl ?_
    first | refine wl_rd (y_load 0 rfl rfl rfl (by kernel_rfl)) rfl ?_ | refine wl_rd (y_load 1 rfl rfl rfl (by kernel_rfl)) rfl ?_ | refine wl_rd (y_load 2 rfl rfl rfl (by kernel_rfl)) rfl ?_ | refine wl_rd (y_load 3 rfl rfl rfl (by kernel_rfl)) rfl ?_ | refine wl_rd (y_load 4 rfl rfl rfl (by kernel_rfl)) rfl ?_ | refine wl_rd (y_load 5 rfl rfl rfl (by kernel_rfl)) rfl ?_
    refine wl_gon rfl rfl ?_
    refine wl_pu (y_eql rfl rfl) rfl ?_
    refine wl_gon rfl rfl ?_
    refine wl_pu (y_move rfl) rfl ?_
    -- at: guard 16
    refine wl_splitD 20 rfl (fun _ => ?_) (fun hc => absurd ((by omega)) hc)
    refine wl_goff rfl rfl rfl rfl ?_
    refine wl_goff rfl rfl rfl rfl ?_
    refine wl_goff rfl rfl rfl rfl ?_
    refine wl_gon rfl rfl ?_
    first | refine wl_pu (y_pickT rfl rfl) rfl ?_ | refine wl_pu (y_pickF rfl rfl) rfl ?_
    refine wl_gon rfl rfl ?_
    first | refine wl_pu (y_pickT rfl rfl) rfl ?_ | refine wl_pu (y_pickF rfl rfl) rfl ?_
    first | refine wl_pu (y_pickT rfl rfl) rfl ?_ | refine wl_pu (y_pickF rfl rfl) rfl ?_
    refine wl_pu (y_assign rfl) rfl ?_
    refine wl_nil ?_
    refine at_then ?_
    refine wc_seq ?_
    refine wc_region ?_
    refine wl_pu (y_move rfl) rfl ?_
    refine wl_pu (y_move rfl) rfl ?_
    -- at: guard 1
    refine wl_splitD 28 rfl (fun _ => ?_) (fun hc => absurd ((by omega)) hc)
    refine wl_gon rfl rfl ?_
    first | refine wl_pu (y_fieldAddr0 2 Try.underlying72 rfl rfl (by kernel_rfl) rfl) rfl ?_ | refine wl_pu (y_fieldAddr 2 Try.underlying72 rfl rfl (by kernel_rfl) rfl) rfl ?_
    refine wl_gon rfl rfl ?_
    first | refine wl_rd (y_load 0 rfl rfl rfl (by kernel_rfl)) rfl ?_ | refine wl_rd (y_load 1 rfl rfl rfl (by kernel_rfl)) rfl ?_ | refine wl_rd (y_load 2 rfl rfl rfl (by kernel_rfl)) rfl ?_ | refine wl_rd (y_load 3 rfl rfl rfl (by kernel_rfl)) rfl ?_ | refine wl_rd (y_load 4 rfl rfl rfl (by kernel_rfl)) rfl ?_ | refine wl_rd (y_load 5 rfl rfl rfl (by kernel_rfl)) rfl ?_
    refine wl_gon rfl rfl ?_
    refine wl_pu (y_geq rfl rfl) rfl ?_
    first | refine wl_pu (y_pickT rfl rfl) rfl ?_ | refine wl_pu (y_pickF rfl rfl) rfl ?_
    refine wl_pu (y_move rfl) rfl ?_
    -- at: guard 6
    refine wl_splitD 33 rfl (fun _ => ?_) (fun hc => absurd ((by omega)) hc)
    refine wl_gon rfl rfl ?_
    first | refine wl_pu (y_fieldAddr0 2 Try.underlying72 rfl rfl (by kernel_rfl) rfl) rfl ?_ | refine wl_pu (y_fieldAddr 2 Try.underlying72 rfl rfl (by kernel_rfl) rfl) rfl ?_
    refine wl_gon rfl rfl ?_
    first | refine wl_rd (y_load 0 rfl rfl rfl (by kernel_rfl)) rfl ?_ | refine wl_rd (y_load 1 rfl rfl rfl (by kernel_rfl)) rfl ?_ | refine wl_rd (y_load 2 rfl rfl rfl (by kernel_rfl)) rfl ?_ | refine wl_rd (y_load 3 rfl rfl rfl (by kernel_rfl)) rfl ?_ | refine wl_rd (y_load 4 rfl rfl rfl (by kernel_rfl)) rfl ?_ | refine wl_rd (y_load 5 rfl rfl rfl (by kernel_rfl)) rfl ?_
    refine wl_gon rfl rfl ?_
    refine wl_pu (y_leq rfl rfl) rfl ?_
    first | refine wl_pu (y_pickT rfl rfl) rfl ?_ | refine wl_pu (y_pickF rfl rfl) rfl ?_
    refine wl_pu (y_move rfl) rfl ?_
    -- at: guard 11
    refine wl_splitD 38 rfl (fun _ => ?_) (fun hc => absurd ((by omega)) hc)
    refine wl_gon rfl rfl ?_
    first | refine wl_pu (y_fieldAddr0 2 Try.underlying72 rfl rfl (by kernel_rfl) rfl) rfl ?_ | refine wl_pu (y_fieldAddr 2 Try.underlying72 rfl rfl (by kernel_rfl) rfl) rfl ?_
    refine wl_gon rfl rfl ?_
    first | refine wl_rd (y_load 0 rfl rfl rfl (by kernel_rfl)) rfl ?_ | refine wl_rd (y_load 1 rfl rfl rfl (by kernel_rfl)) rfl ?_ | refine wl_rd (y_load 2 rfl rfl rfl (by kernel_rfl)) rfl ?_ | refine wl_rd (y_load 3 rfl rfl rfl (by kernel_rfl)) rfl ?_ | refine wl_rd (y_load 4 rfl rfl rfl (by kernel_rfl)) rfl ?_ | refine wl_rd (y_load 5 rfl rfl rfl (by kernel_rfl)) rfl ?_
    refine wl_gon rfl rfl ?_
    refine wl_pu (y_rem rfl rfl (by omega)) rfl ?_
    refine wl_gon rfl rfl ?_
    refine wl_pu (y_eql rfl rfl) rfl ?_
    first | refine wl_pu (y_pickT rfl rfl) rfl ?_ | refine wl_pu (y_pickF rfl rfl) rfl ?_
    refine wl_pu (y_assign rfl) rfl ?_
    refine wl_nil ?_
    refine at_then ?_
    refine wc_ret ?_
    -- at: ret
    refine at_drop ?_
    refine at_ret1 rfl rfl ?_
    exact ⟨by congr 1; simp; omega, rfl⟩
  · skip
    refine wl_splitD 7 rfl (fun hc => absurd hc ((by omega))) (fun _ => ?_)
    refine wl_goff rfl rfl rfl rfl ?_
    refine wl_goff rfl rfl rfl rfl ?_
    refine wl_goff rfl rfl rfl rfl ?_
    first | refine wl_pu (y_pickT rfl rfl) rfl ?_ | refine wl_pu (y_pickF rfl rfl) rfl ?_
    refine wl_pu (y_move rfl) rfl ?_
    -- at: guard 8
    refine wl_gon rfl rfl ?_
    first | refine wl_pu (y_fieldAddr0 0 Try.underlying72 rfl rfl (by kernel_rfl) rfl) rfl ?_ | refine wl_pu (y_fieldAddr 0 Try.underlying72 rfl rfl (by kernel_rfl) rfl) rfl ?_
    refine wl_gon rfl rfl ?_
    first | refine wl_rd (y_load 0 rfl rfl rfl (by kernel_rfl)) rfl ?_ | refine wl_rd (y_load 1 rfl rfl rfl (by kernel_rfl)) rfl ?_ | refine wl_rd (y_load 2 rfl rfl rfl (by kernel_rfl)) rfl ?_ | refine wl_rd (y_load 3 rfl rfl rfl (by kernel_rfl)) rfl ?_ | refine wl_rd (y_load 4 rfl rfl rfl (by kernel_rfl)) rfl ?_ | refine wl_rd (y_load 5 rfl rfl rfl (by kernel_rfl)) rfl ?_
    refine wl_gon rfl rfl ?_
    refine wl_pu (y_eql rfl rfl) rfl ?_
    refine wl_gon rfl rfl ?_
    refine wl_pu (y_move rfl) rfl ?_
    -- at: guard 12
    refine wl_splitD 16 rfl (fun _ => ?_) (fun hc => absurd ((by omega)) hc)
    refine wl_gon rfl rfl ?_
    first | refine wl_pu (y_fieldAddr0 1 Try.underlying72 rfl rfl (by kernel_rfl) rfl) rfl ?_ | refine wl_pu (y_fieldAddr 1 Try.underlying72 rfl rfl (by kernel_rfl) rfl) rfl ?_
    refine wl_gon rfl rfl ?_
    first | refine wl_rd (y_load 0 rfl rfl rfl (by kernel_rfl)) rfl ?_ | refine wl_rd (y_load 1 rfl rfl rfl (by kernel_rfl)) rfl ?_ | refine wl_rd (y_load 2 rfl rfl rfl (by kernel_rfl)) rfl ?_ | refine wl_rd (y_load 3 rfl rfl rfl (by kernel_rfl)) rfl ?_ | refine wl_rd (y_load 4 rfl rfl rfl (by kernel_rfl)) rfl ?_ | refine wl_rd (y_load 5 rfl rfl rfl (by kernel_rfl)) rfl ?_
    refine wl_gon rfl rfl ?_
    refine wl_pu (y_eql rfl rfl) rfl ?_
    refine wl_gon rfl rfl ?_
    refine wl_pu (y_move rfl) rfl ?_
    -- at: guard 16
    refine wl_splitD 20 rfl (fun hc => absurd hc ((by omega))) (fun _ => ?_)
    refine wl_gon rfl rfl ?_
    first | refine wl_pu (y_fieldAddr0 1 Try.underlying72 rfl rfl (by kernel_rfl) rfl) rfl ?_ | refine wl_pu (y_fieldAddr 1 Try.underlying72 rfl rfl (by kernel_rfl) rfl) rfl ?_
    refine wl_gon rfl rfl ?_
    first | refine wl_rd (y_load 0 rfl rfl rfl (by kernel_rfl)) rfl ?_ | refine wl_rd (y_load 1 rfl rfl rfl (by kernel_rfl)) rfl ?_ | refine wl_rd (y_load 2 rfl rfl rfl (by kernel_rfl)) rfl ?_ | refine wl_rd (y_load 3 rfl rfl rfl (by kernel_rfl)) rfl ?_ | refine wl_rd (y_load 4 rfl rfl rfl (by kernel_rfl)) rfl ?_ | refine wl_rd (y_load 5 rfl rfl rfl (by kernel_rfl)) rfl ?_
    refine wl_gon rfl rfl ?_
    refine wl_pu (y_eql rfl rfl) rfl ?_
    refine wl_gon rfl rfl ?_
    first | refine wl_pu (y_pickT rfl rfl) rfl ?_ | refine wl_pu (y_pickF rfl rfl) rfl ?_
    refine wl_gon rfl rfl ?_
    first | refine wl_pu (y_pickT rfl rfl) rfl ?_ | refine wl_pu (y_pickF rfl rfl) rfl ?_
    first | refine wl_pu (y_pickT rfl rfl) rfl ?_ | refine wl_pu (y_pickF rfl rfl) rfl ?_
    refine wl_pu (y_assign rfl) rfl ?_
    refine wl_nil ?_
    refine at_then ?_
    refine wc_seq ?_
    refine wc_region ?_
    refine wl_pu (y_move rfl) rfl ?_
    refine wl_pu (y_move rfl) rfl ?_
    -- at: guard 1
    refine wl_splitD 28 rfl (fun _ => ?_) (fun hc => absurd ((by omega)) hc)
    refine wl_gon rfl rfl ?_
    first | refine wl_pu (y_fieldAddr0 2 Try.underlying72 rfl rfl (by kernel_rfl) rfl) rfl ?_ | refine wl_pu (y_fieldAddr 2 Try.underlying72 rfl rfl (by kernel_rfl) rfl) rfl ?_
    refine wl_gon rfl rfl ?_
    first | refine wl_rd (y_load 0 rfl rfl rfl (by kernel_rfl)) rfl ?_ | refine wl_rd (y_load 1 rfl rfl rfl (by kernel_rfl)) rfl ?_ | refine wl_rd (y_load 2 rfl rfl rfl (by kernel_rfl)) rfl ?_ | refine wl_rd (y_load 3 rfl rfl rfl (by kernel_rfl)) rfl ?_ | refine wl_rd (y_load 4 rfl rfl rfl (by kernel_rfl)) rfl ?_ | refine wl_rd (y_load 5 rfl rfl rfl (by kernel_rfl)) rfl ?_
    refine wl_gon rfl rfl ?_
    refine wl_pu (y_geq rfl rfl) rfl ?_
    first | refine wl_pu (y_pickT rfl rfl) rfl ?_ | refine wl_pu (y_pickF rfl rfl) rfl ?_
    refine wl_pu (y_move rfl) rfl ?_
    -- at: guard 6
    refine wl_splitD 33 rfl (fun _ => ?_) (fun hc => absurd ((by omega)) hc)
    refine wl_gon rfl rfl ?_
    first | refine wl_pu (y_fieldAddr0 2 Try.underlying72 rfl rfl (by kernel_rfl) rfl) rfl ?_ | refine wl_pu (y_fieldAddr 2 Try.underlying72 rfl rfl (by kernel_rfl) rfl) rfl ?_
    refine wl_gon rfl rfl ?_
    first | refine wl_rd (y_load 0 rfl rfl rfl (by kernel_rfl)) rfl ?_ | refine wl_rd (y_load 1 rfl rfl rfl (by kernel_rfl)) rfl ?_ | refine wl_rd (y_load 2 rfl rfl rfl (by kernel_rfl)) rfl ?_ | refine wl_rd (y_load 3 rfl rfl rfl (by kernel_rfl)) rfl ?_ | refine wl_rd (y_load 4 rfl rfl rfl (by kernel_rfl)) rfl ?_ | refine wl_rd (y_load 5 rfl rfl rfl (by kernel_rfl)) rfl ?_
    refine wl_gon rfl rfl ?_
    refine wl_pu (y_leq rfl rfl) rfl ?_
    first | refine wl_pu (y_pickT rfl rfl) rfl ?_ | refine wl_pu (y_pickF rfl rfl) rfl ?_
    refine wl_pu (y_move rfl) rfl ?_
    -- at: guard 11
    refine wl_splitD 38 rfl (fun _ => ?_) (fun hc => absurd ((by omega)) hc)
    refine wl_gon rfl rfl ?_
    first | refine wl_pu (y_fieldAddr0 2 Try.underlying72 rfl rfl (by kernel_rfl) rfl) rfl ?_ | refine wl_pu (y_fieldAddr 2 Try.underlying72 rfl rfl (by kernel_rfl) rfl) rfl ?_
    refine wl_gon rfl rfl ?_
    first | refine wl_rd (y_load 0 rfl rfl rfl (by kernel_rfl)) rfl ?_ | refine wl_rd (y_load 1 rfl rfl rfl (by kernel_rfl)) rfl ?_ | refine wl_rd (y_load 2 rfl rfl rfl (by kernel_rfl)) rfl ?_ | refine wl_rd (y_load 3 rfl rfl rfl (by kernel_rfl)) rfl ?_ | refine wl_rd (y_load 4 rfl rfl rfl (by kernel_rfl)) rfl ?_ | refine wl_rd (y_load 5 rfl rfl rfl (by kernel_rfl)) rfl ?_
    refine wl_gon rfl rfl ?_
    refine wl_pu (y_rem rfl rfl (by omega)) rfl ?_
    refine wl_gon rfl rfl ?_
    refine wl_pu (y_eql rfl rfl) rfl ?_
    first | refine wl_pu (y_pickT rfl rfl) rfl ?_ | refine wl_pu (y_pickF rfl rfl) rfl ?_
    refine wl_pu (y_assign rfl) rfl ?_
    refine wl_nil ?_
    refine at_then ?_
    refine wc_ret ?_
    -- at: ret
    refine at_drop ?_
    refine at_ret1 rfl rfl ?_
    exact ⟨by congr 1; simp; omega, rfl⟩

theorem count_spec (L : Hp) (n : Int) (h : 1 ≤ n ∧ n ≤ 2147483647) : Ctr Try.prog 123 [int n] L (fun v L' => v = .bool true ∧ L' = L) := by
  refine spec_body Try.func123 Try.ntmps123 rfl rfl ?_
  refine wc_seq ?_
  refine wc_region ?_
  refine wl_pu (y_assign rfl) rfl ?_
  refine wl_nil ?_
  refine at_then ?_
  refine wc_seq ?_
  refine wc_region ?_
  refine wl_pu (y_move rfl) rfl ?_
  refine wl_pu (y_geq rfl rfl) rfl ?_
  refine wl_pu (y_move rfl) rfl ?_
  -- at: guard 2
  refine wl_splitD 5 rfl (fun _ => ?_) (fun hc => absurd ((by omega)) hc)
  refine wl_gon rfl rfl ?_
  refine wl_pu (y_move rfl) rfl ?_
  refine wl_gon rfl rfl ?_
  refine wl_pu (y_leq rfl rfl) rfl ?_
  first | refine wl_pu (y_pickT rfl rfl) rfl ?_ | refine wl_pu (y_pickF rfl rfl) rfl ?_
  refine wl_pu (y_assign rfl) rfl ?_
  refine wl_nil ?_
  refine at_then ?_
  refine wc_ret ?_
  -- at: ret
  refine at_ret1 rfl rfl ?_
  exact ⟨by congr 1; simp; omega, rfl⟩

/-- A superblock's cells. -/
abbrev spc (ar me lv mb rw ev ep : Int) (f : Nat → Int) (ck : Int) : List Value := [int ar, int me, int lv, int mb, int rw, int ev, int ep, int (f 0), int (f 1), int (f 2), int (f 3), int ck]
abbrev stc (f : Nat → Int) : List Value := [int (f 0), int (f 1), int (f 2), int (f 3)]
theorem stc_nth (f : Nat → Int) (i : Nat) (h : i < 4) : nth (stc f) i = some (int (f i)) := by
  rcases i with _|_|_|_|i <;> first | rfl | omega
/-- How many members below i are not alive. -/
def outs (mb : Int) (f : Nat → Int) : Nat → Nat
  | 0 => 0
  | i + 1 => outs mb f i + (if (i : Int) < mb ∧ f i ≠ 1 then 1 else 0)
theorem outs_le (mb : Int) (f : Nat → Int) (i : Nat) : outs mb f i ≤ i := by
  induction i with
  | zero => exact Nat.le_refl _
  | succ i ih => simp only [outs]; split <;> omega
structure StOk (mb : Int) (f : Nat → Int) : Prop where
  hi : ∀ i : Nat, i < 4 → mb ≤ i → f i = 0
  lo : ∀ i : Nat, i < 4 → (i : Int) < mb → f i = 1 ∨ f i = 2
  one : outs mb f 4 ≤ 1

theorem states_spec (L : Hp) (ar me lv mb rw ev ep : Int) (f : Nat → Int) (hr : 0 ≤ rw) (h : StOk mb f) : Ctr Try.prog 124 [.agg ⟨spc ar me lv mb rw ev ep f 0⟩] L (fun v L' => v = .bool true ∧ L' = L) := by
  obtain ⟨h1, h2, h3⟩ := h
  refine spec_body Try.func124 Try.ntmps124 rfl rfl ?_
  refine wc_seq ?_
  refine wc_region ?_
  refine wl_do (d_box rfl) rfl ?_
  rintro _ _ ⟨bNEW, rfl, rfl⟩
  refine wl_pu (y_assign rfl) rfl ?_
  refine wl_nil ?_
  refine at_then ?_
  refine wc_seq ?_
  refine wc_region ?_
  refine wl_pu (y_assign rfl) rfl ?_
  refine wl_pu (y_assign rfl) rfl ?_
  refine wl_nil ?_
  refine at_then ?_
  refine wc_seq ?_
  refine wc_seq ?_
  refine wc_region ?_
  first | refine wl_pu (y_fieldAddr0 7 Try.underlying80 rfl rfl (by kernel_rfl) rfl) rfl ?_ | refine wl_pu (y_fieldAddr 7 Try.underlying80 rfl rfl (by kernel_rfl) rfl) rfl ?_
  first | refine wl_rd (y_loadAgg (k := 4) 0 rfl rfl rfl rfl (by kernel_rfl) (by kernel_rfl)) rfl ?_ | refine wl_rd (y_loadAgg (k := 4) 1 rfl rfl rfl rfl (by kernel_rfl) (by kernel_rfl)) rfl ?_ | refine wl_rd (y_loadAgg (k := 4) 2 rfl rfl rfl rfl (by kernel_rfl) (by kernel_rfl)) rfl ?_ | refine wl_rd (y_loadAgg (k := 4) 3 rfl rfl rfl rfl (by kernel_rfl) (by kernel_rfl)) rfl ?_ | refine wl_rd (y_loadAgg (k := 4) 4 rfl rfl rfl rfl (by kernel_rfl) (by kernel_rfl)) rfl ?_ | refine wl_rd (y_loadAgg (k := 4) 5 rfl rfl rfl rfl (by kernel_rfl) (by kernel_rfl)) rfl ?_
  refine wl_pu (y_move rfl) rfl ?_
  refine wl_nil ?_
  refine at_then ?_
  refine wc_block ?_
  -- at: loop
  refine wc_loop (σ := Nat) (fun i => i ≤ 4) (fun i => 4 - i) (fun i => [(1, ptr bNEW 0), (8, .agg ⟨stc f⟩), (9, int (i : Int)), (3, int (outs mb f i : Int)), (4, .bool false)]) (fun _ => (bNEW, row 80 (spc ar me lv mb rw ev ep f 0)) :: L) 0 (by omega) ⟨rfl, rfl, rfl, rfl, rfl, trivial⟩ rfl ?_
  intro i hi
  have hole := outs_le mb f i
  have hos : outs mb f (i + 1) = outs mb f i + (if (i : Int) < mb ∧ f i ≠ 1 then 1 else 0) := rfl
  refine wc_seq ?_
  refine wc_region ?_
  refine wl_pu (y_lss rfl rfl) rfl ?_
  refine wl_nil ?_
  refine at_then ?_
  refine wc_seq ?_
  -- at: cond
  refine wc_condD rfl (fun hi4 => ?_) (fun hi4 => ?_)
  · skip
    refine wc_skip ?_
    refine at_then ?_
    refine wc_seq ?_
    refine wc_block ?_
    refine wc_seq ?_
    refine wc_region ?_
    refine wl_pu (y_move rfl) rfl ?_
    refine wl_pu (y_ixAgg Try.underlying78 (by kernel_rfl) (by kernel_rfl) rfl rfl (by omega) (by rw [Int.toNat_natCast]; exact stc_nth f i (by omega))) rfl ?_
    refine wl_pu (y_assign rfl) rfl ?_
    refine wl_pu (y_assign rfl) rfl ?_
    refine wl_nil ?_
    refine at_then ?_
    refine wc_block ?_
    refine wc_seq ?_
    refine wc_seq ?_
    refine wc_region ?_
    refine wl_pu (y_move rfl) rfl ?_
    first | refine wl_pu (y_fieldAddr0 2 Try.underlying80 rfl rfl (by kernel_rfl) rfl) rfl ?_ | refine wl_pu (y_fieldAddr 2 Try.underlying80 rfl rfl (by kernel_rfl) rfl) rfl ?_
    first | refine wl_pu (y_fieldAddr0 1 Try.underlying72 rfl rfl (by kernel_rfl) rfl) rfl ?_ | refine wl_pu (y_fieldAddr 1 Try.underlying72 rfl rfl (by kernel_rfl) rfl) rfl ?_
    first | refine wl_rd (y_load 0 rfl rfl rfl (by kernel_rfl)) rfl ?_ | refine wl_rd (y_load 1 rfl rfl rfl (by kernel_rfl)) rfl ?_ | refine wl_rd (y_load 2 rfl rfl rfl (by kernel_rfl)) rfl ?_ | refine wl_rd (y_load 3 rfl rfl rfl (by kernel_rfl)) rfl ?_ | refine wl_rd (y_load 4 rfl rfl rfl (by kernel_rfl)) rfl ?_ | refine wl_rd (y_load 5 rfl rfl rfl (by kernel_rfl)) rfl ?_
    refine wl_pu (y_geq rfl rfl) rfl ?_
    refine wl_pu (y_move rfl) rfl ?_
    -- at: guard 5
    by_cases hge : mb ≤ (i : Int)
    · have hf0 := h1 i (by omega) hge
      rw [if_neg (by omega)] at hos
      refine wl_splitD 19 rfl (fun _ => ?_) (fun hc => absurd (hge) hc)
      refine wl_gon rfl rfl ?_
      refine wl_pu (y_move rfl) rfl ?_
      refine wl_gon rfl rfl ?_
      refine wl_pu (y_neq rfl rfl) rfl ?_
      first | refine wl_pu (y_pickT rfl rfl) rfl ?_ | refine wl_pu (y_pickF rfl rfl) rfl ?_
      refine wl_pu (y_assign rfl) rfl ?_
      refine wl_nil ?_
      refine at_then ?_
      -- at: cond
      refine wc_condD rfl (fun hc => absurd hc ((by omega))) (fun _ => ?_)
      refine wc_region ?_
      refine wl_pu (y_move rfl) rfl ?_
      first | refine wl_pu (y_fieldAddr0 2 Try.underlying80 rfl rfl (by kernel_rfl) rfl) rfl ?_ | refine wl_pu (y_fieldAddr 2 Try.underlying80 rfl rfl (by kernel_rfl) rfl) rfl ?_
      first | refine wl_pu (y_fieldAddr0 1 Try.underlying72 rfl rfl (by kernel_rfl) rfl) rfl ?_ | refine wl_pu (y_fieldAddr 1 Try.underlying72 rfl rfl (by kernel_rfl) rfl) rfl ?_
      first | refine wl_rd (y_load 0 rfl rfl rfl (by kernel_rfl)) rfl ?_ | refine wl_rd (y_load 1 rfl rfl rfl (by kernel_rfl)) rfl ?_ | refine wl_rd (y_load 2 rfl rfl rfl (by kernel_rfl)) rfl ?_ | refine wl_rd (y_load 3 rfl rfl rfl (by kernel_rfl)) rfl ?_ | refine wl_rd (y_load 4 rfl rfl rfl (by kernel_rfl)) rfl ?_ | refine wl_rd (y_load 5 rfl rfl rfl (by kernel_rfl)) rfl ?_
      refine wl_pu (y_lss rfl rfl) rfl ?_
      refine wl_pu (y_move rfl) rfl ?_
      -- at: guard 5
      refine wl_splitD 28 rfl (fun hc => absurd hc ((by omega))) (fun _ => ?_)
      refine wl_goff rfl rfl rfl rfl ?_
      refine wl_goff rfl rfl rfl rfl ?_
      refine wl_goff rfl rfl rfl rfl ?_
      refine wl_goffU rfl rfl rfl ?_
      refine wl_goffU rfl rfl rfl ?_
      refine wl_goff rfl rfl rfl rfl ?_
      first | refine wl_pu (y_pickT rfl rfl) rfl ?_ | refine wl_pu (y_pickF rfl rfl) rfl ?_
      refine wl_pu (y_assign rfl) rfl ?_
      refine wl_nil ?_
      refine at_then ?_
      -- at: cond
      refine wc_condF rfl ?_
      refine wc_seq ?_
      refine wc_region ?_
      refine wl_pu (y_move rfl) rfl ?_
      first | refine wl_pu (y_fieldAddr0 2 Try.underlying80 rfl rfl (by kernel_rfl) rfl) rfl ?_ | refine wl_pu (y_fieldAddr 2 Try.underlying80 rfl rfl (by kernel_rfl) rfl) rfl ?_
      first | refine wl_pu (y_fieldAddr0 1 Try.underlying72 rfl rfl (by kernel_rfl) rfl) rfl ?_ | refine wl_pu (y_fieldAddr 1 Try.underlying72 rfl rfl (by kernel_rfl) rfl) rfl ?_
      first | refine wl_rd (y_load 0 rfl rfl rfl (by kernel_rfl)) rfl ?_ | refine wl_rd (y_load 1 rfl rfl rfl (by kernel_rfl)) rfl ?_ | refine wl_rd (y_load 2 rfl rfl rfl (by kernel_rfl)) rfl ?_ | refine wl_rd (y_load 3 rfl rfl rfl (by kernel_rfl)) rfl ?_ | refine wl_rd (y_load 4 rfl rfl rfl (by kernel_rfl)) rfl ?_ | refine wl_rd (y_load 5 rfl rfl rfl (by kernel_rfl)) rfl ?_
      refine wl_pu (y_lss rfl rfl) rfl ?_
      refine wl_pu (y_move rfl) rfl ?_
      -- at: guard 5
      refine wl_splitD 42 rfl (fun hc => absurd hc ((by omega))) (fun _ => ?_)
      refine wl_goff rfl rfl rfl rfl ?_
      refine wl_goff rfl rfl rfl rfl ?_
      first | refine wl_pu (y_pickT rfl rfl) rfl ?_ | refine wl_pu (y_pickF rfl rfl) rfl ?_
      refine wl_pu (y_assign rfl) rfl ?_
      refine wl_nil ?_
      refine at_then ?_
      -- at: cond
      refine wc_condF rfl ?_
      refine wc_skip ?_
      refine at_block_normal ?_
      refine at_block_normal ?_
      refine at_then ?_
      refine wc_region ?_
      refine wl_pu (y_add rfl rfl (by omega)) rfl ?_
      refine wl_pu (y_move rfl) rfl ?_
      refine wl_nil ?_
      -- at: round
      exact at_again (i + 1) (by omega) (by omega) ⟨rfl, rfl, rfl, by rw [hos]; rfl, rfl, trivial⟩ rfl
    · have hf := h2 i (by omega) (by omega)
      refine wl_splitD 19 rfl (fun hc => absurd hc (hge)) (fun _ => ?_)
      refine wl_goff rfl rfl rfl rfl ?_
      refine wl_goff rfl rfl rfl rfl ?_
      first | refine wl_pu (y_pickT rfl rfl) rfl ?_ | refine wl_pu (y_pickF rfl rfl) rfl ?_
      refine wl_pu (y_assign rfl) rfl ?_
      refine wl_nil ?_
      refine at_then ?_
      -- at: cond
      refine wc_condF rfl ?_
      refine wc_region ?_
      refine wl_pu (y_move rfl) rfl ?_
      first | refine wl_pu (y_fieldAddr0 2 Try.underlying80 rfl rfl (by kernel_rfl) rfl) rfl ?_ | refine wl_pu (y_fieldAddr 2 Try.underlying80 rfl rfl (by kernel_rfl) rfl) rfl ?_
      first | refine wl_pu (y_fieldAddr0 1 Try.underlying72 rfl rfl (by kernel_rfl) rfl) rfl ?_ | refine wl_pu (y_fieldAddr 1 Try.underlying72 rfl rfl (by kernel_rfl) rfl) rfl ?_
      first | refine wl_rd (y_load 0 rfl rfl rfl (by kernel_rfl)) rfl ?_ | refine wl_rd (y_load 1 rfl rfl rfl (by kernel_rfl)) rfl ?_ | refine wl_rd (y_load 2 rfl rfl rfl (by kernel_rfl)) rfl ?_ | refine wl_rd (y_load 3 rfl rfl rfl (by kernel_rfl)) rfl ?_ | refine wl_rd (y_load 4 rfl rfl rfl (by kernel_rfl)) rfl ?_ | refine wl_rd (y_load 5 rfl rfl rfl (by kernel_rfl)) rfl ?_
      refine wl_pu (y_lss rfl rfl) rfl ?_
      refine wl_pu (y_move rfl) rfl ?_
      -- at: guard 5
      refine wl_splitD 28 rfl (fun _ => ?_) (fun hc => absurd ((by omega)) hc)
      refine wl_gon rfl rfl ?_
      refine wl_pu (y_move rfl) rfl ?_
      refine wl_gon rfl rfl ?_
      refine wl_pu (y_lss rfl rfl) rfl ?_
      refine wl_gon rfl rfl ?_
      refine wl_pu (y_move rfl) rfl ?_
      -- at: guard 8
      refine wl_splitD 31 rfl (fun hc => absurd hc ((by omega))) (fun _ => ?_)
      refine wl_gon rfl rfl ?_
      refine wl_pu (y_move rfl) rfl ?_
      refine wl_gon rfl rfl ?_
      refine wl_pu (y_gtr rfl rfl) rfl ?_
      refine wl_gon rfl rfl ?_
      first | refine wl_pu (y_pickT rfl rfl) rfl ?_ | refine wl_pu (y_pickF rfl rfl) rfl ?_
      first | refine wl_pu (y_pickT rfl rfl) rfl ?_ | refine wl_pu (y_pickF rfl rfl) rfl ?_
      refine wl_pu (y_assign rfl) rfl ?_
      refine wl_nil ?_
      refine at_then ?_
      -- at: cond
      refine wc_condD rfl (fun hc => absurd hc ((by omega))) (fun _ => ?_)
      refine wc_seq ?_
      refine wc_region ?_
      refine wl_pu (y_move rfl) rfl ?_
      first | refine wl_pu (y_fieldAddr0 2 Try.underlying80 rfl rfl (by kernel_rfl) rfl) rfl ?_ | refine wl_pu (y_fieldAddr 2 Try.underlying80 rfl rfl (by kernel_rfl) rfl) rfl ?_
      first | refine wl_pu (y_fieldAddr0 1 Try.underlying72 rfl rfl (by kernel_rfl) rfl) rfl ?_ | refine wl_pu (y_fieldAddr 1 Try.underlying72 rfl rfl (by kernel_rfl) rfl) rfl ?_
      first | refine wl_rd (y_load 0 rfl rfl rfl (by kernel_rfl)) rfl ?_ | refine wl_rd (y_load 1 rfl rfl rfl (by kernel_rfl)) rfl ?_ | refine wl_rd (y_load 2 rfl rfl rfl (by kernel_rfl)) rfl ?_ | refine wl_rd (y_load 3 rfl rfl rfl (by kernel_rfl)) rfl ?_ | refine wl_rd (y_load 4 rfl rfl rfl (by kernel_rfl)) rfl ?_ | refine wl_rd (y_load 5 rfl rfl rfl (by kernel_rfl)) rfl ?_
      refine wl_pu (y_lss rfl rfl) rfl ?_
      refine wl_pu (y_move rfl) rfl ?_
      -- at: guard 5
      refine wl_splitD 42 rfl (fun _ => ?_) (fun hc => absurd ((by omega)) hc)
      refine wl_gon rfl rfl ?_
      refine wl_pu (y_move rfl) rfl ?_
      refine wl_gon rfl rfl ?_
      refine wl_pu (y_neq rfl rfl) rfl ?_
      first | refine wl_pu (y_pickT rfl rfl) rfl ?_ | refine wl_pu (y_pickF rfl rfl) rfl ?_
      refine wl_pu (y_assign rfl) rfl ?_
      refine wl_nil ?_
      refine at_then ?_
      -- at: cond
      refine wc_condD rfl (fun hne => ?_) (fun hne => ?_)
      · skip
        rw [if_pos ⟨by omega, hne⟩] at hos
        refine wc_seq ?_
        refine wc_region ?_
        refine wl_pu (y_move rfl) rfl ?_
        refine wl_pu (y_add rfl rfl (by omega)) rfl ?_
        refine wl_pu (y_assign rfl) rfl ?_
        refine wl_nil ?_
        refine at_then ?_
        refine wc_region ?_
        refine wl_pu (y_move rfl) rfl ?_
        refine wl_pu (y_eql rfl rfl) rfl ?_
        refine wl_pu (y_assign rfl) rfl ?_
        refine wl_nil ?_
        refine at_block_normal ?_
        refine at_block_normal ?_
        refine at_then ?_
        refine wc_region ?_
        refine wl_pu (y_add rfl rfl (by omega)) rfl ?_
        refine wl_pu (y_move rfl) rfl ?_
        refine wl_nil ?_
        -- at: round
        have h3f : decide (f i = 3) = false := by simp; omega
        refine at_again (i + 1) (by omega) (by omega) ⟨rfl, rfl, rfl, by rw [hos]; rfl, ?_, trivial⟩ rfl
        exact congrArg (fun z => some (Value.bool z)) h3f
      · skip
        rw [if_neg (fun k => hne k.2)] at hos
        refine wc_skip ?_
        refine at_block_normal ?_
        refine at_block_normal ?_
        refine at_then ?_
        refine wc_region ?_
        refine wl_pu (y_add rfl rfl (by omega)) rfl ?_
        refine wl_pu (y_move rfl) rfl ?_
        refine wl_nil ?_
        -- at: round
        exact at_again (i + 1) (by omega) (by omega) ⟨rfl, rfl, rfl, by rw [hos]; rfl, rfl, trivial⟩ rfl
  · skip
    have hi4' : i = 4 := by omega
    subst hi4'
    refine wc_exit ?_
    refine at_then_exit ?_
    refine at_then_exit ?_
    refine at_block_same ?_
    refine at_then ?_
    refine wc_seq ?_
    refine wc_region ?_
    refine wl_pu (y_move rfl) rfl ?_
    refine wl_pu (y_leq rfl rfl) rfl ?_
    refine wl_pu (y_move rfl) rfl ?_
    -- at: guard 2
    refine wl_splitD 53 rfl (fun _ => ?_) (fun hc => absurd ((by omega)) hc)
    refine wl_gon rfl rfl ?_
    first | refine wl_pu (y_fieldAddr0 11 Try.underlying80 rfl rfl (by kernel_rfl) rfl) rfl ?_ | refine wl_pu (y_fieldAddr 11 Try.underlying80 rfl rfl (by kernel_rfl) rfl) rfl ?_
    refine wl_gon rfl rfl ?_
    first | refine wl_rd (y_load 0 rfl rfl rfl (by kernel_rfl)) rfl ?_ | refine wl_rd (y_load 1 rfl rfl rfl (by kernel_rfl)) rfl ?_ | refine wl_rd (y_load 2 rfl rfl rfl (by kernel_rfl)) rfl ?_ | refine wl_rd (y_load 3 rfl rfl rfl (by kernel_rfl)) rfl ?_ | refine wl_rd (y_load 4 rfl rfl rfl (by kernel_rfl)) rfl ?_ | refine wl_rd (y_load 5 rfl rfl rfl (by kernel_rfl)) rfl ?_
    refine wl_gon rfl rfl ?_
    refine wl_pu (y_geq rfl rfl) rfl ?_
    first | refine wl_pu (y_pickT rfl rfl) rfl ?_ | refine wl_pu (y_pickF rfl rfl) rfl ?_
    refine wl_pu (y_move rfl) rfl ?_
    -- at: guard 7
    refine wl_splitD 58 rfl (fun _ => ?_) (fun hc => absurd ((by omega)) hc)
    refine wl_gon rfl rfl ?_
    first | refine wl_pu (y_fieldAddr0 11 Try.underlying80 rfl rfl (by kernel_rfl) rfl) rfl ?_ | refine wl_pu (y_fieldAddr 11 Try.underlying80 rfl rfl (by kernel_rfl) rfl) rfl ?_
    refine wl_gon rfl rfl ?_
    first | refine wl_rd (y_load 0 rfl rfl rfl (by kernel_rfl)) rfl ?_ | refine wl_rd (y_load 1 rfl rfl rfl (by kernel_rfl)) rfl ?_ | refine wl_rd (y_load 2 rfl rfl rfl (by kernel_rfl)) rfl ?_ | refine wl_rd (y_load 3 rfl rfl rfl (by kernel_rfl)) rfl ?_ | refine wl_rd (y_load 4 rfl rfl rfl (by kernel_rfl)) rfl ?_ | refine wl_rd (y_load 5 rfl rfl rfl (by kernel_rfl)) rfl ?_
    refine wl_gon rfl rfl ?_
    first | refine wl_pu (y_fieldAddr0 2 Try.underlying80 rfl rfl (by kernel_rfl) rfl) rfl ?_ | refine wl_pu (y_fieldAddr 2 Try.underlying80 rfl rfl (by kernel_rfl) rfl) rfl ?_
    refine wl_gon rfl rfl ?_
    first | refine wl_pu (y_fieldAddr0 2 Try.underlying72 rfl rfl (by kernel_rfl) rfl) rfl ?_ | refine wl_pu (y_fieldAddr 2 Try.underlying72 rfl rfl (by kernel_rfl) rfl) rfl ?_
    refine wl_gon rfl rfl ?_
    first | refine wl_rd (y_load 0 rfl rfl rfl (by kernel_rfl)) rfl ?_ | refine wl_rd (y_load 1 rfl rfl rfl (by kernel_rfl)) rfl ?_ | refine wl_rd (y_load 2 rfl rfl rfl (by kernel_rfl)) rfl ?_ | refine wl_rd (y_load 3 rfl rfl rfl (by kernel_rfl)) rfl ?_ | refine wl_rd (y_load 4 rfl rfl rfl (by kernel_rfl)) rfl ?_ | refine wl_rd (y_load 5 rfl rfl rfl (by kernel_rfl)) rfl ?_
    refine wl_gon rfl rfl ?_
    refine wl_pu (y_leq rfl rfl) rfl ?_
    first | refine wl_pu (y_pickT rfl rfl) rfl ?_ | refine wl_pu (y_pickF rfl rfl) rfl ?_
    refine wl_pu (y_move rfl) rfl ?_
    -- at: guard 15
    refine wl_splitD 66 rfl (fun _ => ?_) (fun hc => absurd ((by omega)) hc)
    refine wl_gon rfl rfl ?_
    refine wl_pu (y_move rfl) rfl ?_
    refine wl_gon rfl rfl ?_
    refine wl_pu (y_move rfl) rfl ?_
    -- at: guard 17
    refine wl_gon rfl rfl ?_
    first | refine wl_pu (y_fieldAddr0 11 Try.underlying80 rfl rfl (by kernel_rfl) rfl) rfl ?_ | refine wl_pu (y_fieldAddr 11 Try.underlying80 rfl rfl (by kernel_rfl) rfl) rfl ?_
    refine wl_gon rfl rfl ?_
    first | refine wl_rd (y_load 0 rfl rfl rfl (by kernel_rfl)) rfl ?_ | refine wl_rd (y_load 1 rfl rfl rfl (by kernel_rfl)) rfl ?_ | refine wl_rd (y_load 2 rfl rfl rfl (by kernel_rfl)) rfl ?_ | refine wl_rd (y_load 3 rfl rfl rfl (by kernel_rfl)) rfl ?_ | refine wl_rd (y_load 4 rfl rfl rfl (by kernel_rfl)) rfl ?_ | refine wl_rd (y_load 5 rfl rfl rfl (by kernel_rfl)) rfl ?_
    refine wl_gon rfl rfl ?_
    refine wl_pu (y_eql rfl rfl) rfl ?_
    refine wl_gon rfl rfl ?_
    first | refine wl_pu (y_pickT rfl rfl) rfl ?_ | refine wl_pu (y_pickF rfl rfl) rfl ?_
    first | refine wl_pu (y_pickT rfl rfl) rfl ?_ | refine wl_pu (y_pickF rfl rfl) rfl ?_
    refine wl_pu (y_assign rfl) rfl ?_
    refine wl_nil ?_
    refine at_then ?_
    refine wc_ret ?_
    -- at: ret
    refine at_drop ?_
    refine at_ret1 rfl rfl ?_
    exact ⟨by congr 1, rfl⟩

/-- A right superblock. -/
structure SpOk (ar me lv mb rw ev ep : Int) (f : Nat → Int) : Prop where
  ar : 1 ≤ ar ∧ ar ≤ 255
  g : GOk lv mb rw
  me : 0 ≤ me ∧ me < mb
  ev : 1 ≤ ev ∧ ev ≤ 2147483647
  ep : 1 ≤ ep ∧ ep ≤ 2147483647
  st : StOk mb f
theorem right_spec (L : Hp) (ar me lv mb rw ev ep : Int) (f : Nat → Int) (h : SpOk ar me lv mb rw ev ep f) : Ctr Try.prog 80 [.agg ⟨spc ar me lv mb rw ev ep f 0⟩] L (fun v L' => v = .bool true ∧ L' = L) := by
  obtain ⟨h1, h2, h3, h4, h5, h6⟩ := h
  have hlo := h2.lo
  refine spec_body Try.func80 Try.ntmps80 rfl rfl ?_
  refine wc_seq ?_
  refine wc_region ?_
  refine wl_do (d_box rfl) rfl ?_
  rintro _ _ ⟨bNEW, rfl, rfl⟩
  refine wl_pu (y_assign rfl) rfl ?_
  refine wl_nil ?_
  refine at_then ?_
  refine wc_seq ?_
  refine wc_region ?_
  first | refine wl_pu (y_fieldAddr0 0 Try.underlying80 rfl rfl (by kernel_rfl) rfl) rfl ?_ | refine wl_pu (y_fieldAddr 0 Try.underlying80 rfl rfl (by kernel_rfl) rfl) rfl ?_
  first | refine wl_rd (y_load 0 rfl rfl rfl (by kernel_rfl)) rfl ?_ | refine wl_rd (y_load 1 rfl rfl rfl (by kernel_rfl)) rfl ?_ | refine wl_rd (y_load 2 rfl rfl rfl (by kernel_rfl)) rfl ?_ | refine wl_rd (y_load 3 rfl rfl rfl (by kernel_rfl)) rfl ?_ | refine wl_rd (y_load 4 rfl rfl rfl (by kernel_rfl)) rfl ?_ | refine wl_rd (y_load 5 rfl rfl rfl (by kernel_rfl)) rfl ?_
  refine wl_pu (y_geq rfl rfl) rfl ?_
  refine wl_pu (y_move rfl) rfl ?_
  -- at: guard 3
  refine wl_splitD 6 rfl (fun _ => ?_) (fun hc => absurd ((by omega)) hc)
  refine wl_gon rfl rfl ?_
  first | refine wl_pu (y_fieldAddr0 0 Try.underlying80 rfl rfl (by kernel_rfl) rfl) rfl ?_ | refine wl_pu (y_fieldAddr 0 Try.underlying80 rfl rfl (by kernel_rfl) rfl) rfl ?_
  refine wl_gon rfl rfl ?_
  first | refine wl_rd (y_load 0 rfl rfl rfl (by kernel_rfl)) rfl ?_ | refine wl_rd (y_load 1 rfl rfl rfl (by kernel_rfl)) rfl ?_ | refine wl_rd (y_load 2 rfl rfl rfl (by kernel_rfl)) rfl ?_ | refine wl_rd (y_load 3 rfl rfl rfl (by kernel_rfl)) rfl ?_ | refine wl_rd (y_load 4 rfl rfl rfl (by kernel_rfl)) rfl ?_ | refine wl_rd (y_load 5 rfl rfl rfl (by kernel_rfl)) rfl ?_
  refine wl_gon rfl rfl ?_
  refine wl_pu (y_leq rfl rfl) rfl ?_
  first | refine wl_pu (y_pickT rfl rfl) rfl ?_ | refine wl_pu (y_pickF rfl rfl) rfl ?_
  refine wl_pu (y_move rfl) rfl ?_
  -- at: guard 8
  refine wl_splitD 11 rfl (fun _ => ?_) (fun hc => absurd ((by omega)) hc)
  refine wl_gon rfl rfl ?_
  first | refine wl_pu (y_fieldAddr0 2 Try.underlying80 rfl rfl (by kernel_rfl) rfl) rfl ?_ | refine wl_pu (y_fieldAddr 2 Try.underlying80 rfl rfl (by kernel_rfl) rfl) rfl ?_
  refine wl_gon rfl rfl ?_
  refine wl_rd (y_loadAgg (k := 3) (vs := geo lv mb rw) 0 rfl rfl rfl rfl (by kernel_rfl) (by kernel_rfl)) rfl ?_
  refine wl_gon rfl rfl ?_
  -- at: op (call {callee:(value (func 122)), args:[t13], argTypes:[72]})
  refine wl_do (d_call (by kernel_rfl) rfl (gright_spec _ _ _ _ h2)) rfl ?_
  rintro _ _ ⟨rfl, rfl⟩
  first | refine wl_pu (y_pickT rfl rfl) rfl ?_ | refine wl_pu (y_pickF rfl rfl) rfl ?_
  refine wl_pu (y_move rfl) rfl ?_
  -- at: guard 13
  refine wl_gon rfl rfl ?_
  first | refine wl_pu (y_fieldAddr0 1 Try.underlying80 rfl rfl (by kernel_rfl) rfl) rfl ?_ | refine wl_pu (y_fieldAddr 1 Try.underlying80 rfl rfl (by kernel_rfl) rfl) rfl ?_
  refine wl_gon rfl rfl ?_
  first | refine wl_rd (y_load 0 rfl rfl rfl (by kernel_rfl)) rfl ?_ | refine wl_rd (y_load 1 rfl rfl rfl (by kernel_rfl)) rfl ?_ | refine wl_rd (y_load 2 rfl rfl rfl (by kernel_rfl)) rfl ?_ | refine wl_rd (y_load 3 rfl rfl rfl (by kernel_rfl)) rfl ?_ | refine wl_rd (y_load 4 rfl rfl rfl (by kernel_rfl)) rfl ?_ | refine wl_rd (y_load 5 rfl rfl rfl (by kernel_rfl)) rfl ?_
  refine wl_gon rfl rfl ?_
  refine wl_pu (y_geq rfl rfl) rfl ?_
  first | refine wl_pu (y_pickT rfl rfl) rfl ?_ | refine wl_pu (y_pickF rfl rfl) rfl ?_
  refine wl_pu (y_move rfl) rfl ?_
  -- at: guard 18
  refine wl_splitD 21 rfl (fun _ => ?_) (fun hc => absurd ((by omega)) hc)
  refine wl_gon rfl rfl ?_
  first | refine wl_pu (y_fieldAddr0 1 Try.underlying80 rfl rfl (by kernel_rfl) rfl) rfl ?_ | refine wl_pu (y_fieldAddr 1 Try.underlying80 rfl rfl (by kernel_rfl) rfl) rfl ?_
  refine wl_gon rfl rfl ?_
  first | refine wl_rd (y_load 0 rfl rfl rfl (by kernel_rfl)) rfl ?_ | refine wl_rd (y_load 1 rfl rfl rfl (by kernel_rfl)) rfl ?_ | refine wl_rd (y_load 2 rfl rfl rfl (by kernel_rfl)) rfl ?_ | refine wl_rd (y_load 3 rfl rfl rfl (by kernel_rfl)) rfl ?_ | refine wl_rd (y_load 4 rfl rfl rfl (by kernel_rfl)) rfl ?_ | refine wl_rd (y_load 5 rfl rfl rfl (by kernel_rfl)) rfl ?_
  refine wl_gon rfl rfl ?_
  first | refine wl_pu (y_fieldAddr0 2 Try.underlying80 rfl rfl (by kernel_rfl) rfl) rfl ?_ | refine wl_pu (y_fieldAddr 2 Try.underlying80 rfl rfl (by kernel_rfl) rfl) rfl ?_
  refine wl_gon rfl rfl ?_
  first | refine wl_pu (y_fieldAddr0 1 Try.underlying72 rfl rfl (by kernel_rfl) rfl) rfl ?_ | refine wl_pu (y_fieldAddr 1 Try.underlying72 rfl rfl (by kernel_rfl) rfl) rfl ?_
  refine wl_gon rfl rfl ?_
  first | refine wl_rd (y_load 0 rfl rfl rfl (by kernel_rfl)) rfl ?_ | refine wl_rd (y_load 1 rfl rfl rfl (by kernel_rfl)) rfl ?_ | refine wl_rd (y_load 2 rfl rfl rfl (by kernel_rfl)) rfl ?_ | refine wl_rd (y_load 3 rfl rfl rfl (by kernel_rfl)) rfl ?_ | refine wl_rd (y_load 4 rfl rfl rfl (by kernel_rfl)) rfl ?_ | refine wl_rd (y_load 5 rfl rfl rfl (by kernel_rfl)) rfl ?_
  refine wl_gon rfl rfl ?_
  refine wl_pu (y_lss rfl rfl) rfl ?_
  first | refine wl_pu (y_pickT rfl rfl) rfl ?_ | refine wl_pu (y_pickF rfl rfl) rfl ?_
  refine wl_pu (y_move rfl) rfl ?_
  -- at: guard 26
  refine wl_splitD 29 rfl (fun _ => ?_) (fun hc => absurd ((by omega)) hc)
  refine wl_gon rfl rfl ?_
  first | refine wl_pu (y_fieldAddr0 5 Try.underlying80 rfl rfl (by kernel_rfl) rfl) rfl ?_ | refine wl_pu (y_fieldAddr 5 Try.underlying80 rfl rfl (by kernel_rfl) rfl) rfl ?_
  refine wl_gon rfl rfl ?_
  first | refine wl_rd (y_load 0 rfl rfl rfl (by kernel_rfl)) rfl ?_ | refine wl_rd (y_load 1 rfl rfl rfl (by kernel_rfl)) rfl ?_ | refine wl_rd (y_load 2 rfl rfl rfl (by kernel_rfl)) rfl ?_ | refine wl_rd (y_load 3 rfl rfl rfl (by kernel_rfl)) rfl ?_ | refine wl_rd (y_load 4 rfl rfl rfl (by kernel_rfl)) rfl ?_ | refine wl_rd (y_load 5 rfl rfl rfl (by kernel_rfl)) rfl ?_
  refine wl_gon rfl rfl ?_
  -- at: op (call {callee:(value (func 123)), args:[t31], argTypes:[3]})
  refine wl_do (d_call (by kernel_rfl) rfl (count_spec _ _ h4)) rfl ?_
  rintro _ _ ⟨rfl, rfl⟩
  first | refine wl_pu (y_pickT rfl rfl) rfl ?_ | refine wl_pu (y_pickF rfl rfl) rfl ?_
  refine wl_pu (y_move rfl) rfl ?_
  -- at: guard 31
  refine wl_gon rfl rfl ?_
  first | refine wl_pu (y_fieldAddr0 6 Try.underlying80 rfl rfl (by kernel_rfl) rfl) rfl ?_ | refine wl_pu (y_fieldAddr 6 Try.underlying80 rfl rfl (by kernel_rfl) rfl) rfl ?_
  refine wl_gon rfl rfl ?_
  first | refine wl_rd (y_load 0 rfl rfl rfl (by kernel_rfl)) rfl ?_ | refine wl_rd (y_load 1 rfl rfl rfl (by kernel_rfl)) rfl ?_ | refine wl_rd (y_load 2 rfl rfl rfl (by kernel_rfl)) rfl ?_ | refine wl_rd (y_load 3 rfl rfl rfl (by kernel_rfl)) rfl ?_ | refine wl_rd (y_load 4 rfl rfl rfl (by kernel_rfl)) rfl ?_ | refine wl_rd (y_load 5 rfl rfl rfl (by kernel_rfl)) rfl ?_
  refine wl_gon rfl rfl ?_
  -- at: op (call {callee:(value (func 123)), args:[t36], argTypes:[3]})
  refine wl_do (d_call (by kernel_rfl) rfl (count_spec _ _ h5)) rfl ?_
  rintro _ _ ⟨rfl, rfl⟩
  first | refine wl_pu (y_pickT rfl rfl) rfl ?_ | refine wl_pu (y_pickF rfl rfl) rfl ?_
  refine wl_pu (y_move rfl) rfl ?_
  -- at: guard 36
  refine wl_gon rfl rfl ?_
  refine wl_rd (y_loadAgg (k := 12) (vs := spc ar me lv mb rw ev ep f 0) 0 rfl rfl rfl rfl (by kernel_rfl) (by kernel_rfl)) rfl ?_
  refine wl_gon rfl rfl ?_
  -- at: op (call {callee:(value (func 124)), args:[t40], argTypes:[80]})
  refine wl_do (d_call (by kernel_rfl) rfl (states_spec _ _ _ _ _ _ _ _ _ (by omega) h6)) rfl ?_
  rintro _ _ ⟨rfl, rfl⟩
  first | refine wl_pu (y_pickT rfl rfl) rfl ?_ | refine wl_pu (y_pickF rfl rfl) rfl ?_
  refine wl_pu (y_assign rfl) rfl ?_
  refine wl_nil ?_
  refine at_then ?_
  refine wc_ret ?_
  -- at: ret
  refine at_drop ?_
  refine at_ret1 rfl rfl ?_
  exact ⟨rfl, rfl⟩

/-- A number's four bytes, the least first. -/
def le4 (n : Nat) : List UInt8 := [UInt8.ofNat n, UInt8.ofNat (n >>> 8), UInt8.ofNat (n >>> 16), UInt8.ofNat (n >>> 24)]
theorem u8_of (n : Nat) : IntKind.u8.wrap (n : Int) = (((UInt8.ofNat n).toNat : Nat) : Int) := by
  rw [m_u8, UInt8.toNat_ofNat']; omega
theorem put_spec (F fr : Hp) (v : Value) (k : Nat) (xs : List Value) (n : Nat) (hS : Sl2 5 1 v k xs fr) (hn : n < 4294967296) (hk : k ≤ 100000) :
    Ctr Try.prog 82 [v, .int .u32 (n : Int)] (fr ++ F) (fun v' L' => ∃ fr', SlF 5 1 v' (k + 4) (xs ++ B8 (le4 n)) fr' ∧ L' = fr' ++ F) := by
  refine spec_body Try.func82 Try.ntmps82 rfl rfl ?_
  refine wc_seq ?_
  refine wc_region ?_
  refine wl_pu (y_assign rfl) rfl ?_
  refine wl_nil ?_
  refine at_then ?_
  refine wc_seq ?_
  refine wc_region ?_
  refine wl_pu (y_move rfl) rfl ?_
  refine wl_pu (y_move rfl) rfl ?_
  refine wl_pu (y_conv Try.underlying23 Try.underlying5 rfl (u8_of n)) rfl ?_
  refine wl_pu (y_move rfl) rfl ?_
  refine wl_pu (y_shr n 8 rfl rfl hn) rfl ?_
  refine wl_pu (y_conv Try.underlying23 Try.underlying5 rfl (u8_of _)) rfl ?_
  refine wl_pu (y_move rfl) rfl ?_
  refine wl_pu (y_shr n 16 rfl rfl hn) rfl ?_
  refine wl_pu (y_conv Try.underlying23 Try.underlying5 rfl (u8_of _)) rfl ?_
  refine wl_pu (y_move rfl) rfl ?_
  refine wl_pu (y_shr n 24 rfl rfl hn) rfl ?_
  refine wl_pu (y_conv Try.underlying23 Try.underlying5 rfl (u8_of _)) rfl ?_
  refine wl_do (d_buildSlice (B8 (le4 n)) Try.underlying24 rfl (by kernel_rfl)) rfl ?_
  rintro _ _ ⟨b8, rfl, rfl⟩
  refine wl_perm (List.perm_middle (l₁ := fr) (l₂ := F)).symm ?_
  refine wl_do (d_append2 (sz := 1) (bytes := 1) 0 (.int .u8 0) Try.underlying24 (by kernel_rfl) rfl rfl rfl hS rfl rfl (news := B8 (le4 n)) rfl rfl (allOne_B8 _) (by omega) (by omega) (by omega)) rfl ?_
  rintro v1 _ ⟨fr1, hS1, rfl⟩
  refine wl_perm List.perm_middle (wl_drop ?_)
  refine wl_pu (y_assign rfl) rfl ?_
  refine wl_nil ?_
  refine at_then ?_
  refine wc_ret ?_
  -- at: ret
  refine at_ret1 rfl rfl ?_
  exact ⟨fr1, hS1, rfl⟩
end Go.Proofs.Ytkpndnjhfocheaa
