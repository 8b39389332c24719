/- says, shape: what they come to. -/
import Derived.Test.YtkpndnjhfocheaaSupersH
namespace Go.Proofs.Ytkpndnjhfocheaa
open Go.SL
variable {X : Inhabited SL.Outside}

theorem says_spec (F : Hp) (ar me lv mb rw ev ep : Int) (f : Nat → Int) : Ctr Try.prog 126 [.agg ⟨spc ar me lv mb rw ev ep f 0⟩] F (fun v L' => v = .agg ⟨spc ar 0 lv mb rw ev ep f 0⟩ ∧ L' = F) := by
  refine spec_body Try.func126 Try.ntmps126 rfl rfl ?_
  refine wc_seq ?_
  refine wc_region ?_
  refine wl_do (d_box rfl) rfl ?_
  rintro _ _ ⟨bNEW, rfl, rfl⟩
  refine wl_do (d_alloc (z := .agg #[int 0, int 0, int 0, int 0, int 0, int 0, int 0, int 0, int 0, int 0, int 0, int 0]) (zeroB_of (by kernel_rfl))) rfl ?_
  rintro _ _ ⟨b2, rfl, rfl⟩
  refine wl_heap ((b2, row 80 sp0) :: (bNEW, row 80 (spc ar me lv mb rw ev ep f 0)) :: F) rfl ?_
  refine wl_nil ?_
  refine at_then ?_
  refine wc_seq ?_
  refine wc_region ?_
  first | refine wl_pu (y_fieldAddr0 1 Try.underlying80 rfl rfl (by kernel_rfl) rfl) rfl ?_ | refine wl_pu (y_fieldAddr 1 Try.underlying80 rfl rfl (by kernel_rfl) rfl) rfl ?_
  refine wl_do0 (d_store 1 rfl rfl rfl rfl rfl (by kernel_rfl)) (fun _ _ hL => ?_)
  subst hL
  refine wl_heap ((b2, row 80 sp0) :: (bNEW, row 80 (spc ar 0 lv mb rw ev ep f 0)) :: F) rfl ?_
  refine wl_nil ?_
  refine at_then ?_
  refine wc_seq ?_
  refine wc_region ?_
  refine wl_rd (y_loadAgg (k := 12) (vs := spc ar 0 lv mb rw ev ep f 0) 1 rfl rfl rfl rfl (by kernel_rfl) (by kernel_rfl)) rfl ?_
  refine wl_do0 (d_storeAgg (k := 12) 0 rfl rfl rfl (by decide) rfl rfl (by kernel_rfl)) (fun _ _ hL => ?_)
  subst hL
  refine wl_nil ?_
  refine at_then ?_
  refine wc_ret ?_
  -- at: ret
  refine at_heap ((b2, row 80 (spc ar 0 lv mb rw ev ep f 0)) :: (bNEW, row 80 (spc ar 0 lv mb rw ev ep f 0)) :: F) rfl ?_
  refine at_retC0 (k := 12) (vs := spc ar 0 lv mb rw ev ep f 0) 0 rfl rfl rfl rfl rfl (by kernel_rfl) (by kernel_rfl) (fun _ hO => hO.drop.drop) ?_
  exact ⟨rfl, rfl⟩

def shLv (n : Int) : Int := if 2 + n % 3 = 2 then 1 else 5
theorem shape_ok (n : Int) : GOk (shLv n) (2 + n % 3) (2 + (n / 3 % 8) * 2) := by
  refine ⟨?_, by omega, by omega, by omega⟩
  unfold shLv
  split <;> omega
theorem shape_spec (F : Hp) (n : Int) (h : 0 ≤ n ∧ n < 256) : Ctr Try.prog 33 [.int .u8 n] F (fun v L' => v = .agg ⟨geo (shLv n) (2 + n % 3) (2 + (n / 3 % 8) * 2)⟩ ∧ L' = F) := by
  refine spec_body Try.func33 Try.ntmps33 rfl rfl ?_
  refine wc_seq ?_
  refine wc_region ?_
  refine wl_do (d_alloc (z := .agg #[int 0, int 0, int 0]) (zeroB_of (by kernel_rfl))) rfl ?_
  rintro _ _ ⟨b2, rfl, rfl⟩
  refine wl_nil ?_
  refine at_then ?_
  refine wc_seq ?_
  refine wc_region ?_
  refine wl_pu (y_move rfl) rfl ?_
  refine wl_pu (y_rem rfl rfl (by omega)) rfl ?_
  first | refine wl_pu (y_conv Try.underlying5 Try.underlying3 rfl (IntWalk.i64_in _ (by omega))) rfl ?_ | refine wl_pu (y_conv Try.underlying5 Try.underlying3 rfl rfl) rfl ?_
  refine wl_pu (y_add rfl rfl (by omega)) rfl ?_
  refine wl_pu (y_move rfl) rfl ?_
  refine wl_pu (y_quoU rfl rfl (by omega) (IntWalk.u8_in _ (by omega))) rfl ?_
  refine wl_pu (y_rem rfl rfl (by omega)) rfl ?_
  first | refine wl_pu (y_conv Try.underlying5 Try.underlying3 rfl (IntWalk.i64_in _ (by omega))) rfl ?_ | refine wl_pu (y_conv Try.underlying5 Try.underlying3 rfl rfl) rfl ?_
  refine wl_pu (y_mul rfl rfl (by omega)) rfl ?_
  refine wl_pu (y_add rfl rfl (by omega)) rfl ?_
  refine wl_pu (y_build [int 5, int (2 + n % 3), int (2 + (n / 3 % 8) * 2)] rfl (by kernel_rfl)) rfl ?_
  refine wl_do (d_alloc (z := .agg #[int 0, int 0, int 0]) (zeroB_of (by kernel_rfl))) rfl ?_
  rintro _ _ ⟨b3, rfl, rfl⟩
  refine wl_do0 (d_storeAgg (k := 3) 0 rfl rfl rfl (by decide) rfl rfl (by kernel_rfl)) (fun _ _ hL => ?_)
  subst hL
  refine wl_heap ((b3, row 72 (geo 5 (2 + n % 3) (2 + (n / 3 % 8) * 2))) :: (b2, row 72 (geo 0 0 0)) :: F) rfl ?_
  refine wl_nil ?_
  refine at_then ?_
  refine wc_seq ?_
  refine wc_seq ?_
  refine wc_region ?_
  first | refine wl_pu (y_fieldAddr0 1 Try.underlying72 rfl rfl (by kernel_rfl) rfl) rfl ?_ | refine wl_pu (y_fieldAddr 1 Try.underlying72 rfl rfl (by kernel_rfl) rfl) rfl ?_
  first | refine wl_rd (y_load 0 rfl rfl rfl (by kernel_rfl)) rfl ?_ | refine wl_rd (y_load 1 rfl rfl rfl (by kernel_rfl)) rfl ?_ | refine wl_rd (y_load 2 rfl rfl rfl (by kernel_rfl)) rfl ?_ | refine wl_rd (y_load 3 rfl rfl rfl (by kernel_rfl)) rfl ?_ | refine wl_rd (y_load 4 rfl rfl rfl (by kernel_rfl)) rfl ?_ | refine wl_rd (y_load 5 rfl rfl rfl (by kernel_rfl)) rfl ?_
  refine wl_pu (y_eql rfl rfl) rfl ?_
  refine wl_nil ?_
  refine at_then ?_
  -- at: cond
  refine wc_condD rfl (fun hm => ?_) (fun hm => ?_)
  · skip
    refine wc_region ?_
    first | refine wl_pu (y_fieldAddr0 0 Try.underlying72 rfl rfl (by kernel_rfl) rfl) rfl ?_ | refine wl_pu (y_fieldAddr 0 Try.underlying72 rfl rfl (by kernel_rfl) rfl) rfl ?_
    refine wl_do0 (d_store 0 rfl rfl rfl rfl rfl (by kernel_rfl)) (fun _ _ hL => ?_)
    subst hL
    refine wl_heap ((b3, row 72 (geo 1 (2 + n % 3) (2 + (n / 3 % 8) * 2))) :: (b2, row 72 (geo 0 0 0)) :: F) rfl ?_
    refine wl_nil ?_
    refine at_then ?_
    refine wc_seq ?_
    refine wc_region ?_
    refine wl_rd (y_loadAgg (k := 3) (vs := geo 1 (2 + n % 3) (2 + (n / 3 % 8) * 2)) 0 rfl rfl rfl rfl (by kernel_rfl) (by kernel_rfl)) rfl ?_
    refine wl_do0 (d_storeAgg (k := 3) 1 rfl rfl rfl (by decide) rfl rfl (by kernel_rfl)) (fun _ _ hL => ?_)
    subst hL
    refine wl_nil ?_
    refine at_then ?_
    refine wc_ret ?_
    -- at: ret
    refine at_heap ((b3, row 72 (geo 1 (2 + n % 3) (2 + (n / 3 % 8) * 2))) :: (b2, row 72 (geo 1 (2 + n % 3) (2 + (n / 3 % 8) * 2))) :: F) rfl ?_
    refine at_retC0 (k := 3) (vs := geo 1 (2 + n % 3) (2 + (n / 3 % 8) * 2)) 1 rfl rfl rfl rfl rfl (by kernel_rfl) (by kernel_rfl) (fun _ hO => hO.drop.drop) ?_
    exact ⟨by rw [shLv, if_pos hm], rfl⟩
  · skip
    refine wc_skip ?_
    refine at_then ?_
    refine wc_seq ?_
    refine wc_region ?_
    refine wl_rd (y_loadAgg (k := 3) (vs := geo 5 (2 + n % 3) (2 + (n / 3 % 8) * 2)) 0 rfl rfl rfl rfl (by kernel_rfl) (by kernel_rfl)) rfl ?_
    refine wl_do0 (d_storeAgg (k := 3) 1 rfl rfl rfl (by decide) rfl rfl (by kernel_rfl)) (fun _ _ hL => ?_)
    subst hL
    refine wl_nil ?_
    refine at_then ?_
    refine wc_ret ?_
    -- at: ret
    refine at_heap ((b3, row 72 (geo 5 (2 + n % 3) (2 + (n / 3 % 8) * 2))) :: (b2, row 72 (geo 5 (2 + n % 3) (2 + (n / 3 % 8) * 2))) :: F) rfl ?_
    refine at_retC0 (k := 3) (vs := geo 5 (2 + n % 3) (2 + (n / 3 % 8) * 2)) 1 rfl rfl rfl rfl rfl (by kernel_rfl) (by kernel_rfl) (fun _ hO => hO.drop.drop) ?_
    exact ⟨by rw [shLv, if_neg hm], rfl⟩
end Go.Proofs.Ytkpndnjhfocheaa
