/- super.Read: what it comes to. -/
import Derived.Test.YtkpndnjhfocheaaSupersD
import Derived.Test.YtkpndnjhfocheaaSLl
namespace Go.Proofs.Ytkpndnjhfocheaa
open Go.SL
variable {X : Inhabited SL.Outside}

abbrev sp0 : List Value := [int 0, int 0, int 0, int 0, int 0, int 0, int 0, int 0, int 0, int 0, int 0, int 0]
theorem get_at (l : List UInt8) (sp : List Value) (hl : l.length = 64) {off : Nat} (ho : off = 60) : ∀ i, i < 4 → nth (B8 l ++ sp) (off + i * 1) = some (.int .u8 ((((l.drop 60)[i]?.getD 0).toNat : Nat) : Int)) := fun i hi => by
  subst ho
  have h := u8_nth l (60 + i) (by omega)
  rw [nth_eq] at h ⊢
  rw [Nat.mul_one, List.getElem?_append_left (by rw [B8_length]; omega), h, List.getElem?_drop]
theorem readbad_spec (F : Hp) (l : List UInt8) (hl : l.length = 64) (h : l.take 4 ≠ magic ∨ get4 (l.drop 60) ≠ crc (l.take 60)) :
    Ctr Try.prog 84 [S l] F (fun v L' => v = .tuple #[.agg ⟨sp0⟩, int (if l.take 4 = magic then 9 else 8)] ∧ L' = F) := by
  refine spec_body Try.func84 Try.ntmps84 rfl rfl ?_
  refine wc_seq ?_
  refine wc_region ?_
  refine wl_do (d_alloc (z := .agg #[int 0, int 0, int 0, int 0, int 0, int 0, int 0, int 0, int 0, int 0, int 0, int 0]) (zeroB_of (by kernel_rfl))) rfl ?_
  rintro _ _ ⟨b2, rfl, rfl⟩
  refine wl_heap ((b2, row 80 sp0) :: F) rfl ?_
  refine wl_pu (y_assign rfl) rfl ?_
  refine wl_nil ?_
  refine at_then ?_
  refine wc_seq ?_
  refine wc_seq ?_
  refine wc_region ?_
  refine wl_pu (y_move rfl) rfl ?_
  refine wl_pu (y_lenS Try.underlying9 rfl) rfl ?_
  refine wl_pu (y_neq rfl rfl) rfl ?_
  refine wl_pu (y_move rfl) rfl ?_
  -- at: guard 3
  refine wl_splitD 13 rfl (fun hc => absurd hc ((by omega))) (fun _ => ?_)
  refine wl_gon rfl rfl ?_
  refine wl_pu (y_move rfl) rfl ?_
  refine wl_gon rfl rfl ?_
  refine wl_pu (y_toS Try.underlying9 rfl rfl (by omega)) rfl ?_
  refine wl_gon rfl rfl ?_
  refine wl_pu (y_neS (l := l.take 4) (r := magic) rfl rfl) rfl ?_
  first | refine wl_pu (y_pickT rfl rfl) rfl ?_ | refine wl_pu (y_pickF rfl rfl) rfl ?_
  refine wl_nil ?_
  refine at_then ?_
  -- at: cond
  refine wc_condD rfl (fun hm => ?_) (fun hm => ?_)
  · skip
    refine wc_seq ?_
    refine wc_region ?_
    -- at: op (build 80 [])
    refine wl_pu (y_build [int 0, int 0, int 0, int 0, int 0, int 0, int 0, int 0, int 0, int 0, int 0, int 0] rfl (by kernel_rfl)) rfl ?_
    first | (refine wl_do0 (d_storeAgg (k := 12) 0 rfl rfl rfl (by decide) rfl rfl (by kernel_rfl)) (fun _ _ hL => ?_); subst hL) | (refine wl_do0 (d_storeAgg (k := 12) 1 rfl rfl rfl (by decide) rfl rfl (by kernel_rfl)) (fun _ _ hL => ?_); subst hL) | (refine wl_do0 (d_storeAgg (k := 12) 2 rfl rfl rfl (by decide) rfl rfl (by kernel_rfl)) (fun _ _ hL => ?_); subst hL) | (refine wl_do0 (d_storeAgg (k := 12) 3 rfl rfl rfl (by decide) rfl rfl (by kernel_rfl)) (fun _ _ hL => ?_); subst hL) | (refine wl_do0 (d_storeAgg (k := 12) 4 rfl rfl rfl (by decide) rfl rfl (by kernel_rfl)) (fun _ _ hL => ?_); subst hL) | (refine wl_do0 (d_storeAgg (k := 12) 5 rfl rfl rfl (by decide) rfl rfl (by kernel_rfl)) (fun _ _ hL => ?_); subst hL)
    refine wl_pu (y_assign rfl) rfl ?_
    refine wl_nil ?_
    refine at_then ?_
    refine wc_ret ?_
    refine at_then_ret ?_
    -- at: ret
    refine at_heap ((b2, row 80 sp0) :: F) rfl ?_
    refine at_retC1 (k := 12) (vs := sp0) 0 rfl rfl rfl rfl rfl rfl (by kernel_rfl) (by kernel_rfl) (fun _ hO => hO.drop) ?_
    exact ⟨by rw [if_neg hm], rfl⟩
  · skip
    have hsum : get4 (l.drop 60) ≠ crc (l.take 60) := by
      rcases h with h | h
      · exact absurd h hm
      · exact h
    refine wc_skip ?_
    refine at_then ?_
    refine wc_seq ?_
    refine wc_region ?_
    refine wl_pu (y_move rfl) rfl ?_
    -- at: op (convert 9 24 t19)
    refine wl_do (d_bytes Try.underlying9 Try.underlying24 Try.underlying5 rfl) rfl ?_
    rintro _ _ ⟨b3, cap, sp, rfl, hsp, rfl⟩
    refine wl_pu (y_assign rfl) rfl ?_
    refine wl_nil ?_
    refine at_then ?_
    refine wc_seq ?_
    refine wc_seq ?_
    -- at: draw
    apply wc_draw 7 (pl := [_, _, _, _, _, _, _]) (by kernel_rfl)
    rotate_left
    refine hw_pu (y_move rfl) ?_
    refine hw_pu (y_fromL 1 Try.underlying24 (by kernel_rfl) rfl rfl (by omega)) ?_
    -- at: hw op (call {callee:(value (func 125)), args:[t22], argTypes:[24]})
    refine hw_call (by kernel_rfl) rfl ((fun F' => get_spec _ _ _ _ _ _ _ _ (l.drop 60) (get_at l sp hl ((if_neg (by omega)).trans (by rfl))) (by omega))) ?_
    refine hw_pu (y_move rfl) ?_
    refine hw_pu (v := S (l.take 60)) (y_toS (j := 60) Try.underlying9 rfl rfl (by omega)) ?_
    refine hw_call (by kernel_rfl) rfl ((fun F' => sum_spec _ _ (by rw [List.length_take]; omega))) ?_
    refine hw_pu (y_neq rfl rfl) ?_
    refine hw_end [] rfl ?_
    case hB => kernel_rfl
    refine wl_nil ?_
    refine at_nq ?_
    refine at_then ?_
    -- at: cond
    refine wc_condD rfl (fun _ => ?_) (fun hc => absurd ((by have := crc_lt (l.take 60); intro hc; exact hsum (by omega))) hc)
    refine wc_seq ?_
    refine wc_region ?_
    -- at: op (build 80 [])
    refine wl_heap ((b3, .cells ⟨B8 l ++ sp⟩ 5 (cap, cap + 1)) :: (b2, row 80 sp0) :: F) rfl ?_
    refine wl_pu (y_build [int 0, int 0, int 0, int 0, int 0, int 0, int 0, int 0, int 0, int 0, int 0, int 0] rfl (by kernel_rfl)) rfl ?_
    first | (refine wl_do0 (d_storeAgg (k := 12) 0 rfl rfl rfl (by decide) rfl rfl (by kernel_rfl)) (fun _ _ hL => ?_); subst hL) | (refine wl_do0 (d_storeAgg (k := 12) 1 rfl rfl rfl (by decide) rfl rfl (by kernel_rfl)) (fun _ _ hL => ?_); subst hL) | (refine wl_do0 (d_storeAgg (k := 12) 2 rfl rfl rfl (by decide) rfl rfl (by kernel_rfl)) (fun _ _ hL => ?_); subst hL) | (refine wl_do0 (d_storeAgg (k := 12) 3 rfl rfl rfl (by decide) rfl rfl (by kernel_rfl)) (fun _ _ hL => ?_); subst hL) | (refine wl_do0 (d_storeAgg (k := 12) 4 rfl rfl rfl (by decide) rfl rfl (by kernel_rfl)) (fun _ _ hL => ?_); subst hL) | (refine wl_do0 (d_storeAgg (k := 12) 5 rfl rfl rfl (by decide) rfl rfl (by kernel_rfl)) (fun _ _ hL => ?_); subst hL)
    refine wl_pu (y_assign rfl) rfl ?_
    refine wl_nil ?_
    refine at_then ?_
    refine wc_ret ?_
    refine at_then_ret ?_
    -- at: ret
    refine at_drop ?_
    refine at_heap ((b2, row 80 sp0) :: F) rfl ?_
    refine at_retC1 (k := 12) (vs := sp0) 0 rfl rfl rfl rfl rfl rfl (by kernel_rfl) (by kernel_rfl) (fun _ hO => hO.drop) ?_
    exact ⟨by rw [if_pos (Decidable.not_not.1 hm)], rfl⟩
end Go.Proofs.Ytkpndnjhfocheaa
