/- place.At. -/
import Derived.Test.YtkpndnjhfocheaaRaidB
namespace Go.Proofs.Ytkpndnjhfocheaa
open Go.SL
variable {X : Inhabited SL.Outside}

theorem slF_cons {T : TypeId} {v : Value} {k : Nat} {xs : List Value} {fr : Hp} (h : SlF T 1 v k xs fr) (h0 : 0 < k) : ∃ b cap sp, v = sl b 0 k cap ∧ fr = [(b, row T (xs ++ sp))] ∧ k ≤ cap ∧ xs.length + sp.length = cap := by
  cases h with
  | nil => omega
  | own b n cap xs sp hx hc hs => exact ⟨b, cap, sp, rfl, rfl, hc, by omega⟩

section
variable {lv rw : Int} {n : Nat}
/-- Where a sector lies. -/
def atR (n : Nat) (s : Int) : Int := s / 2 / ((n : Int) - 1) * 2 + s % 2
def atM (n : Nat) (s : Int) : Int := dat n (atR n s) (s / 2 % ((n : Int) - 1))
theorem GOk.three (h : GOk lv n rw) : n = 2 ∨ n = 3 ∨ n = 4 := by have := h.sh; omega
theorem atR_lo (h : GOk lv n rw) {s : Int} (hs : 0 ≤ s ∧ s < rw * ((n : Int) - 1)) : 0 ≤ atR n s ∧ atR n s < rw := by
  have he := h.ev
  rcases h.three with rfl | rfl | rfl <;> simp [atR] at hs ⊢ <;> omega
theorem atR_div (h : GOk lv n rw) {s : Int} (hs : 0 ≤ s ∧ s < rw * ((n : Int) - 1)) : 0 ≤ s / 2 / ((n : Int) - 1) ∧ s / 2 / ((n : Int) - 1) ≤ 32 ∧ 0 ≤ s / 2 % ((n : Int) - 1) ∧ s / 2 % ((n : Int) - 1) < (n : Int) - 1 ∧ s < 200 := by
  have he := h.ev
  have hh := h.hi
  rcases h.three with rfl | rfl | rfl <;> simp at hs ⊢ <;> omega

theorem at_spec (F : Hp) (h : GOk lv n rw) (s : Int) (hs : 0 ≤ s ∧ s < rw * ((n : Int) - 1)) : Ctr Try.prog 42 [.agg ⟨geo lv n rw⟩, int s] F (fun v L' => v = .tuple #[int (atR n s), int (atM n s), .bool true] ∧ L' = F) := by
  have hn := h.mem3
  have hr := atR_lo h hs
  have hd := atR_div h hs
  refine spec_body Try.func42 Try.ntmps42 rfl rfl ?_
  refine wc_seq ?_
  refine wc_region ?_
  refine wl_do (d_box rfl) rfl ?_
  rintro _ _ ⟨bNEW, rfl, rfl⟩
  refine wl_pu (y_assign rfl) rfl ?_
  refine wl_pu (y_assign rfl) rfl ?_
  refine wl_pu (y_assign rfl) rfl ?_
  refine wl_nil ?_
  refine at_then ?_
  refine wc_seq ?_
  refine wc_seq ?_
  refine wc_region ?_
  refine wl_pu (y_move rfl) rfl ?_
  refine wl_pu (y_lss rfl rfl) rfl ?_
  refine wl_pu (y_move rfl) rfl ?_
  -- at: guard 2
  refine wl_splitD 13 rfl (fun hc => absurd hc ((by omega))) (fun _ => ?_)
  refine wl_gon rfl rfl ?_
  refine wl_pu (y_move rfl) rfl ?_
  refine wl_gon rfl rfl ?_
  first | refine wl_rd (y_loadAgg (k := 3) 0 rfl rfl rfl rfl (by kernel_rfl) (by kernel_rfl)) rfl ?_ | refine wl_rd (y_loadAgg (k := 3) 1 rfl rfl rfl rfl (by kernel_rfl) (by kernel_rfl)) rfl ?_ | refine wl_rd (y_loadAgg (k := 3) 2 rfl rfl rfl rfl (by kernel_rfl) (by kernel_rfl)) rfl ?_ | refine wl_rd (y_loadAgg (k := 3) 3 rfl rfl rfl rfl (by kernel_rfl) (by kernel_rfl)) rfl ?_ | refine wl_rd (y_loadAgg (k := 3) 4 rfl rfl rfl rfl (by kernel_rfl) (by kernel_rfl)) rfl ?_ | refine wl_rd (y_loadAgg (k := 3) 5 rfl rfl rfl rfl (by kernel_rfl) (by kernel_rfl)) rfl ?_
  refine wl_gon rfl rfl ?_
  -- at: op (call {callee:(value (func 90)), args:[t15], argTypes:[72]})
  refine wl_do (d_call (by kernel_rfl) rfl (size_spec _ h)) rfl ?_
  rintro _ _ ⟨rfl, rfl⟩
  refine wl_gon rfl rfl ?_
  refine wl_pu (y_geq rfl rfl) rfl ?_
  first | refine wl_pu (y_pickT rfl rfl) rfl ?_ | refine wl_pu (y_pickF rfl rfl) rfl ?_
  refine wl_nil ?_
  refine at_then ?_
  -- at: cond
  refine wc_condD rfl (fun hc => absurd hc ((by omega))) (fun _ => ?_)
  refine wc_skip ?_
  refine at_then ?_
  refine wc_seq ?_
  refine wc_region ?_
  refine wl_pu (y_move rfl) rfl ?_
  refine wl_pu (y_quo rfl rfl (by omega)) rfl ?_
  refine wl_pu (y_move rfl) rfl ?_
  refine wl_pu (y_rem rfl rfl (by omega)) rfl ?_
  refine wl_pu (y_assign rfl) rfl ?_
  refine wl_pu (y_assign rfl) rfl ?_
  refine wl_nil ?_
  refine at_then ?_
  refine wc_seq ?_
  -- at: draw
  apply wc_draw 12 (pl := [_, _, _, _, _, _, _, _, _, _, _, _]) (by kernel_rfl)
  rotate_left
  refine hw_pu (y_move rfl) ?_
  first | refine hw_pu (y_fieldAddr0 1 Try.underlying72 rfl rfl (by kernel_rfl) rfl) ?_ | refine hw_pu (y_fieldAddr 1 Try.underlying72 rfl rfl (by kernel_rfl) rfl) ?_
  first | refine hw_rd (y_load 0 rfl rfl rfl (by kernel_rfl)) ?_ | refine hw_rd (y_load 1 rfl rfl rfl (by kernel_rfl)) ?_ | refine hw_rd (y_load 2 rfl rfl rfl (by kernel_rfl)) ?_ | refine hw_rd (y_load 3 rfl rfl rfl (by kernel_rfl)) ?_ | refine hw_rd (y_load 4 rfl rfl rfl (by kernel_rfl)) ?_ | refine hw_rd (y_load 5 rfl rfl rfl (by kernel_rfl)) ?_
  refine hw_pu (y_sub rfl rfl (by omega)) ?_
  refine hw_pu (y_quo rfl rfl (by omega)) ?_
  refine hw_pu (y_move rfl) ?_
  first | refine hw_pu (y_fieldAddr0 1 Try.underlying72 rfl rfl (by kernel_rfl) rfl) ?_ | refine hw_pu (y_fieldAddr 1 Try.underlying72 rfl rfl (by kernel_rfl) rfl) ?_
  first | refine hw_rd (y_load 0 rfl rfl rfl (by kernel_rfl)) ?_ | refine hw_rd (y_load 1 rfl rfl rfl (by kernel_rfl)) ?_ | refine hw_rd (y_load 2 rfl rfl rfl (by kernel_rfl)) ?_ | refine hw_rd (y_load 3 rfl rfl rfl (by kernel_rfl)) ?_ | refine hw_rd (y_load 4 rfl rfl rfl (by kernel_rfl)) ?_ | refine hw_rd (y_load 5 rfl rfl rfl (by kernel_rfl)) ?_
  refine hw_pu (y_sub rfl rfl (by omega)) ?_
  refine hw_pu (y_rem rfl rfl (by omega)) ?_
  refine hw_pu (y_assign rfl) ?_
  refine hw_pu (y_assign rfl) ?_
  refine hw_end [] rfl ?_
  case hB => kernel_rfl
  refine wl_nil ?_
  refine at_nq ?_
  refine at_then ?_
  refine wc_seq ?_
  refine wc_region ?_
  refine wl_pu (y_move rfl) rfl ?_
  refine wl_pu (y_mul rfl rfl (by omega)) rfl ?_
  refine wl_pu (y_move rfl) rfl ?_
  refine wl_pu (y_add rfl rfl (by omega)) rfl ?_
  refine wl_pu (y_assign rfl) rfl ?_
  refine wl_nil ?_
  refine at_then ?_
  refine wc_seq ?_
  -- at: draw
  have hrr : s / 2 / ((n : Int) - 1) * 2 + s % 2 = atR n s := rfl
  rw [hrr]
  refine wc_anyN (by kernel_rfl) ?_
  refine wy_pu (i := 0) rfl (by kernel_rfl) (y_move rfl) rfl ?_
  refine wy_pu (i := 2) rfl (by kernel_rfl) (y_move rfl) rfl ?_
  refine wy_pu (i := 4) rfl (by kernel_rfl) (y_move rfl) rfl ?_
  refine wy_1 (i := 1) (by kernel_rfl) ?_
  refine wo_rd rfl (y_loadAgg (k := 3) (vs := geo lv n rw) 0 rfl rfl rfl rfl (by kernel_rfl) (by kernel_rfl)) rfl ?_
  refine wy_1 (i := 3) (by kernel_rfl) ?_
  refine wo_do rfl (d_call (by kernel_rfl) rfl (data_spec _ h _ hr)) rfl ?_
  rintro _ _ ⟨fr, hS, rfl⟩
  obtain ⟨b1, cap, sp, rfl, rfl, hcap, hl⟩ := slF_cons hS (by omega)
  refine wy_heap ((b1, row 3 ((dats n (atR n s)).map int ++ sp)) :: (bNEW, row 72 (geo lv n rw)) :: F) rfl ?_
  first | refine wy_pu (i := 5) rfl (by kernel_rfl) (y_ix1 Try.underlying74 (by kernel_rfl) rfl rfl (by omega)) rfl ?_ | refine wy_pu (i := 5) rfl (by kernel_rfl) (y_ix 1 Try.underlying74 (by kernel_rfl) rfl rfl (by omega)) rfl ?_
  refine wy_pu (i := 7) rfl (by kernel_rfl) (y_assign rfl) rfl ?_
  refine wy_1 (i := 6) (by kernel_rfl) ?_
  refine wo_rd rfl (y_load 0 rfl rfl (v := int (atM n s)) ?_ (by kernel_rfl)) rfl ?_
  · have hlt : (s / 2 % ((n : Int) - 1)).toNat < (dats n (atR n s)).length := by rw [dats_len]; omega
    rw [nth_eq, List.getElem?_append_left (by simpa using hlt)]
    simp only [dats, List.getElem?_map, List.getElem?_range (show (s / 2 % ((n : Int) - 1)).toNat < n - 1 by omega), Option.map_some]
    rw [Int.toNat_of_nonneg hd.2.2.1]; rfl
  refine wy_pu (i := 8) rfl (by kernel_rfl) (y_assign rfl) rfl ?_
  refine wy_pu (i := 9) rfl (by kernel_rfl) (y_assign rfl) rfl ?_
  refine wy_nil (by kernel_rfl) ?_
  refine at_nq ?_
  refine at_then ?_
  refine wc_ret ?_
  refine at_drop (at_drop ?_)
  refine at_ret3 rfl rfl rfl rfl ?_
  exact ⟨rfl, rfl⟩
end
end Go.Proofs.Ytkpndnjhfocheaa
