/- super.Of: what it comes to. -/
import Derived.Test.YtkpndnjhfocheaaSupersG
namespace Go.Proofs.Ytkpndnjhfocheaa
open Go.SL
variable {X : Inhabited SL.Outside}

/-- What Read makes of a sector. -/
def Reads (X : Inhabited SL.Outside) (l : List UInt8) (ar me lv mb rw ev ep : Int) (f : Nat → Int) (e : Int) : Prop := ∀ F, Ctr (X := X) Try.prog 84 [S l] F (fun v L' => v = .tuple #[.agg ⟨spc ar me lv mb rw ev ep f 0⟩, int e] ∧ L' = F)

theorem of_spec (F : Hp) {l l' : List UInt8} {ar me lv mb rw ev ep ar' me' lv' mb' rw' ev' ep' e e' : Int} {f f' : Nat → Int} (h : Reads X l ar me lv mb rw ev ep f e) (h' : Reads X l' ar' me' lv' mb' rw' ev' ep' f' e') :
    Ctr Try.prog 36 [S l, S l'] F (fun v L' => v = (if e ≠ 0 ∧ e' ≠ 0 then .tuple #[.agg ⟨sp0⟩, int 0, .bool false]
      else if e' ≠ 0 ∨ (e = 0 ∧ ev ≥ ev') then .tuple #[.agg ⟨spc ar me lv mb rw ev ep f 0⟩, int 1, .bool true] else .tuple #[.agg ⟨spc ar' me' lv' mb' rw' ev' ep' f' 0⟩, int 0, .bool true]) ∧ L' = F) := by
  refine spec_body Try.func36 Try.ntmps36 rfl rfl ?_
  refine wc_seq ?_
  refine wc_region ?_
  refine wl_do (d_alloc (z := .agg #[int 0, int 0, int 0, int 0, int 0, int 0, int 0, int 0, int 0, int 0, int 0, int 0]) (zeroB_of (by kernel_rfl))) rfl ?_
  rintro _ _ ⟨b4, rfl, rfl⟩
  refine wl_pu (y_assign rfl) rfl ?_
  refine wl_pu (y_assign rfl) rfl ?_
  refine wl_nil ?_
  refine at_then ?_
  refine wc_seq ?_
  refine wc_region ?_
  refine wl_pu (y_move rfl) rfl ?_
  -- at: op (call {callee:(value (func 84)), args:[t12], argTypes:[9]})
  refine wl_do (d_call (by kernel_rfl) rfl (h _)) rfl ?_
  rintro _ _ ⟨rfl, rfl⟩
  refine wl_pu (y_move rfl) rfl ?_
  refine wl_pu (y_extract rfl rfl) rfl ?_
  refine wl_pu (y_extract rfl rfl) rfl ?_
  refine wl_do (d_alloc (z := .agg #[int 0, int 0, int 0, int 0, int 0, int 0, int 0, int 0, int 0, int 0, int 0, int 0]) (zeroB_of (by kernel_rfl))) rfl ?_
  rintro _ _ ⟨b7, rfl, rfl⟩
  refine wl_do0 (d_storeAgg (k := 12) 0 rfl rfl rfl (by decide) rfl rfl (by kernel_rfl)) (fun _ _ hL => ?_)
  subst hL
  refine wl_pu (y_assign rfl) rfl ?_
  refine wl_nil ?_
  refine at_then ?_
  refine wc_seq ?_
  refine wc_region ?_
  refine wl_pu (y_move rfl) rfl ?_
  -- at: op (call {callee:(value (func 84)), args:[t17], argTypes:[9]})
  refine wl_do (d_call (by kernel_rfl) rfl (h' _)) rfl ?_
  rintro _ _ ⟨rfl, rfl⟩
  refine wl_pu (y_move rfl) rfl ?_
  refine wl_pu (y_extract rfl rfl) rfl ?_
  refine wl_pu (y_extract rfl rfl) rfl ?_
  refine wl_do (d_alloc (z := .agg #[int 0, int 0, int 0, int 0, int 0, int 0, int 0, int 0, int 0, int 0, int 0, int 0]) (zeroB_of (by kernel_rfl))) rfl ?_
  rintro _ _ ⟨b9, rfl, rfl⟩
  refine wl_do0 (d_storeAgg (k := 12) 0 rfl rfl rfl (by decide) rfl rfl (by kernel_rfl)) (fun _ _ hL => ?_)
  subst hL
  refine wl_heap ((b9, row 80 (spc ar' me' lv' mb' rw' ev' ep' f' 0)) :: (b7, row 80 (spc ar me lv mb rw ev ep f 0)) :: (b4, row 80 sp0) :: F) rfl ?_
  refine wl_pu (y_assign rfl) rfl ?_
  refine wl_nil ?_
  refine at_then ?_
  refine wc_seq ?_
  refine wc_block ?_
  refine wc_seq ?_
  refine wc_region ?_
  refine wl_pu (y_move rfl) rfl ?_
  refine wl_pu (y_neq rfl rfl) rfl ?_
  refine wl_pu (y_move rfl) rfl ?_
  -- at: guard 2
  refine wl_splitD 24 rfl (fun he => ?_) (fun he => ?_)
  · skip
    refine wl_gon rfl rfl ?_
    refine wl_pu (y_move rfl) rfl ?_
    refine wl_gon rfl rfl ?_
    refine wl_pu (y_neq rfl rfl) rfl ?_
    first | refine wl_pu (y_pickT rfl rfl) rfl ?_ | refine wl_pu (y_pickF rfl rfl) rfl ?_
    refine wl_pu (y_assign rfl) rfl ?_
    refine wl_nil ?_
    refine at_then ?_
    -- at: cond
    refine wc_condD rfl (fun he' => ?_) (fun he' => ?_)
    · skip
      refine wc_seq ?_
      refine wc_region ?_
      -- at: op (build 80 [])
      refine wl_pu (y_build [int 0, int 0, int 0, int 0, int 0, int 0, int 0, int 0, int 0, int 0, int 0, int 0] rfl (by kernel_rfl)) rfl ?_
      refine wl_do0 (d_storeAgg (k := 12) 2 rfl rfl rfl (by decide) rfl rfl (by kernel_rfl)) (fun _ _ hL => ?_)
      subst hL
      refine wl_pu (y_assign rfl) rfl ?_
      refine wl_pu (y_assign rfl) rfl ?_
      refine wl_nil ?_
      refine at_then ?_
      refine wc_ret ?_
      refine at_block_ret ?_
      refine at_then_ret ?_
      -- at: ret
      refine at_drop (at_drop ?_)
      refine at_heap ((b4, row 80 sp0) :: F) rfl ?_
      refine at_retC2 (k := 12) (vs := sp0) 0 rfl rfl rfl rfl rfl rfl rfl (by kernel_rfl) (by kernel_rfl) (fun _ hO => hO.drop) ?_
      exact ⟨by rw [if_pos ⟨he, he'⟩], rfl⟩
    · skip
      refine wc_seq ?_
      refine wc_region ?_
      refine wl_pu (y_move rfl) rfl ?_
      refine wl_pu (y_neq rfl rfl) rfl ?_
      refine wl_pu (y_move rfl) rfl ?_
      -- at: guard 2
      refine wl_splitD 32 rfl (fun hc => absurd hc (he')) (fun _ => ?_)
      refine wl_gon rfl rfl ?_
      refine wl_pu (y_move rfl) rfl ?_
      refine wl_gon rfl rfl ?_
      refine wl_pu (y_eql rfl rfl) rfl ?_
      refine wl_gon rfl rfl ?_
      refine wl_pu (y_move rfl) rfl ?_
      -- at: guard 5
      refine wl_splitD 35 rfl (fun hc => absurd hc (he)) (fun _ => ?_)
      refine wl_goff rfl rfl rfl rfl ?_
      refine wl_goff rfl rfl rfl rfl ?_
      refine wl_goff rfl rfl rfl rfl ?_
      refine wl_goff rfl rfl rfl rfl ?_
      refine wl_goff rfl rfl rfl rfl ?_
      refine wl_gon rfl rfl ?_
      first | refine wl_pu (y_pickT rfl rfl) rfl ?_ | refine wl_pu (y_pickF rfl rfl) rfl ?_
      first | refine wl_pu (y_pickT rfl rfl) rfl ?_ | refine wl_pu (y_pickF rfl rfl) rfl ?_
      refine wl_pu (y_assign rfl) rfl ?_
      refine wl_nil ?_
      refine at_then ?_
      -- at: cond
      refine wc_condF rfl ?_
      refine wc_skip ?_
      refine at_block_normal ?_
      refine at_then ?_
      refine wc_seq ?_
      refine wc_region ?_
      first | refine wl_rd (y_loadAgg (k := 12) 0 rfl rfl rfl rfl (by kernel_rfl) (by kernel_rfl)) rfl ?_ | refine wl_rd (y_loadAgg (k := 12) 1 rfl rfl rfl rfl (by kernel_rfl) (by kernel_rfl)) rfl ?_ | refine wl_rd (y_loadAgg (k := 12) 2 rfl rfl rfl rfl (by kernel_rfl) (by kernel_rfl)) rfl ?_ | refine wl_rd (y_loadAgg (k := 12) 3 rfl rfl rfl rfl (by kernel_rfl) (by kernel_rfl)) rfl ?_ | refine wl_rd (y_loadAgg (k := 12) 4 rfl rfl rfl rfl (by kernel_rfl) (by kernel_rfl)) rfl ?_ | refine wl_rd (y_loadAgg (k := 12) 5 rfl rfl rfl rfl (by kernel_rfl) (by kernel_rfl)) rfl ?_
      first | (refine wl_do0 (d_storeAgg (k := 12) 0 rfl rfl rfl (by decide) rfl rfl (by kernel_rfl)) (fun _ _ hL => ?_); subst hL) | (refine wl_do0 (d_storeAgg (k := 12) 1 rfl rfl rfl (by decide) rfl rfl (by kernel_rfl)) (fun _ _ hL => ?_); subst hL) | (refine wl_do0 (d_storeAgg (k := 12) 2 rfl rfl rfl (by decide) rfl rfl (by kernel_rfl)) (fun _ _ hL => ?_); subst hL) | (refine wl_do0 (d_storeAgg (k := 12) 3 rfl rfl rfl (by decide) rfl rfl (by kernel_rfl)) (fun _ _ hL => ?_); subst hL) | (refine wl_do0 (d_storeAgg (k := 12) 4 rfl rfl rfl (by decide) rfl rfl (by kernel_rfl)) (fun _ _ hL => ?_); subst hL) | (refine wl_do0 (d_storeAgg (k := 12) 5 rfl rfl rfl (by decide) rfl rfl (by kernel_rfl)) (fun _ _ hL => ?_); subst hL)
      refine wl_pu (y_assign rfl) rfl ?_
      refine wl_pu (y_assign rfl) rfl ?_
      refine wl_nil ?_
      refine at_then ?_
      refine wc_ret ?_
      -- at: ret
      refine at_drop (at_drop ?_)
      refine at_heap ((b4, row 80 (spc ar' me' lv' mb' rw' ev' ep' f' 0)) :: F) rfl ?_
      refine at_retC2 (k := 12) (vs := spc ar' me' lv' mb' rw' ev' ep' f' 0) 0 rfl rfl rfl rfl rfl rfl rfl (by kernel_rfl) (by kernel_rfl) (fun _ hO => hO.drop) ?_
      exact ⟨by rw [if_neg (fun k => he' k.2), if_neg (fun k => k.elim he' (fun k => he k.1))], rfl⟩
  · skip
    refine wl_goff rfl rfl rfl rfl ?_
    refine wl_goff rfl rfl rfl rfl ?_
    first | refine wl_pu (y_pickT rfl rfl) rfl ?_ | refine wl_pu (y_pickF rfl rfl) rfl ?_
    refine wl_pu (y_assign rfl) rfl ?_
    refine wl_nil ?_
    refine at_then ?_
    -- at: cond
    refine wc_condF rfl ?_
    refine wc_seq ?_
    refine wc_region ?_
    refine wl_pu (y_move rfl) rfl ?_
    refine wl_pu (y_neq rfl rfl) rfl ?_
    refine wl_pu (y_move rfl) rfl ?_
    -- at: guard 2
    refine wl_splitD 32 rfl (fun he' => ?_) (fun he' => ?_)
    · skip
      refine wl_goff rfl rfl rfl rfl ?_
      refine wl_goff rfl rfl rfl rfl ?_
      refine wl_goff rfl rfl rfl rfl ?_
      refine wl_goffU rfl rfl rfl ?_
      refine wl_goffU rfl rfl rfl ?_
      refine wl_goffU rfl rfl rfl ?_
      refine wl_goffU rfl rfl rfl ?_
      refine wl_goffU rfl rfl rfl ?_
      refine wl_goff rfl rfl rfl rfl ?_
      first | refine wl_pu (y_pickT rfl rfl) rfl ?_ | refine wl_pu (y_pickF rfl rfl) rfl ?_
      refine wl_pu (y_assign rfl) rfl ?_
      refine wl_nil ?_
      refine at_then ?_
      -- at: cond
      refine wc_condT rfl ?_
      refine wc_seq ?_
      refine wc_region ?_
      first | refine wl_rd (y_loadAgg (k := 12) 0 rfl rfl rfl rfl (by kernel_rfl) (by kernel_rfl)) rfl ?_ | refine wl_rd (y_loadAgg (k := 12) 1 rfl rfl rfl rfl (by kernel_rfl) (by kernel_rfl)) rfl ?_ | refine wl_rd (y_loadAgg (k := 12) 2 rfl rfl rfl rfl (by kernel_rfl) (by kernel_rfl)) rfl ?_ | refine wl_rd (y_loadAgg (k := 12) 3 rfl rfl rfl rfl (by kernel_rfl) (by kernel_rfl)) rfl ?_ | refine wl_rd (y_loadAgg (k := 12) 4 rfl rfl rfl rfl (by kernel_rfl) (by kernel_rfl)) rfl ?_ | refine wl_rd (y_loadAgg (k := 12) 5 rfl rfl rfl rfl (by kernel_rfl) (by kernel_rfl)) rfl ?_
      first | (refine wl_do0 (d_storeAgg (k := 12) 0 rfl rfl rfl (by decide) rfl rfl (by kernel_rfl)) (fun _ _ hL => ?_); subst hL) | (refine wl_do0 (d_storeAgg (k := 12) 1 rfl rfl rfl (by decide) rfl rfl (by kernel_rfl)) (fun _ _ hL => ?_); subst hL) | (refine wl_do0 (d_storeAgg (k := 12) 2 rfl rfl rfl (by decide) rfl rfl (by kernel_rfl)) (fun _ _ hL => ?_); subst hL) | (refine wl_do0 (d_storeAgg (k := 12) 3 rfl rfl rfl (by decide) rfl rfl (by kernel_rfl)) (fun _ _ hL => ?_); subst hL) | (refine wl_do0 (d_storeAgg (k := 12) 4 rfl rfl rfl (by decide) rfl rfl (by kernel_rfl)) (fun _ _ hL => ?_); subst hL) | (refine wl_do0 (d_storeAgg (k := 12) 5 rfl rfl rfl (by decide) rfl rfl (by kernel_rfl)) (fun _ _ hL => ?_); subst hL)
      refine wl_pu (y_assign rfl) rfl ?_
      refine wl_pu (y_assign rfl) rfl ?_
      refine wl_nil ?_
      refine at_then ?_
      refine wc_ret ?_
      refine at_block_ret ?_
      refine at_then_ret ?_
      -- at: ret
      refine at_drop (at_drop ?_)
      refine at_heap ((b4, row 80 (spc ar me lv mb rw ev ep f 0)) :: F) rfl ?_
      refine at_retC2 (k := 12) (vs := spc ar me lv mb rw ev ep f 0) 0 rfl rfl rfl rfl rfl rfl rfl (by kernel_rfl) (by kernel_rfl) (fun _ hO => hO.drop) ?_
      exact ⟨by rw [if_neg (fun k => he k.1), if_pos (.inl he')], rfl⟩
    · skip
      refine wl_gon rfl rfl ?_
      refine wl_pu (y_move rfl) rfl ?_
      refine wl_gon rfl rfl ?_
      refine wl_pu (y_eql rfl rfl) rfl ?_
      refine wl_gon rfl rfl ?_
      refine wl_pu (y_move rfl) rfl ?_
      -- at: guard 5
      refine wl_splitD 35 rfl (fun _ => ?_) (fun hc => absurd ((by omega)) hc)
      refine wl_gon rfl rfl ?_
      first | refine wl_pu (y_fieldAddr0 5 Try.underlying80 rfl rfl (by kernel_rfl) rfl) rfl ?_ | refine wl_pu (y_fieldAddr 5 Try.underlying80 rfl rfl (by kernel_rfl) rfl) rfl ?_
      refine wl_gon rfl rfl ?_
      first | refine wl_rd (y_load 0 rfl rfl rfl (by kernel_rfl)) rfl ?_ | refine wl_rd (y_load 1 rfl rfl rfl (by kernel_rfl)) rfl ?_ | refine wl_rd (y_load 2 rfl rfl rfl (by kernel_rfl)) rfl ?_ | refine wl_rd (y_load 3 rfl rfl rfl (by kernel_rfl)) rfl ?_ | refine wl_rd (y_load 4 rfl rfl rfl (by kernel_rfl)) rfl ?_ | refine wl_rd (y_load 5 rfl rfl rfl (by kernel_rfl)) rfl ?_
      refine wl_gon rfl rfl ?_
      first | refine wl_pu (y_fieldAddr0 5 Try.underlying80 rfl rfl (by kernel_rfl) rfl) rfl ?_ | refine wl_pu (y_fieldAddr 5 Try.underlying80 rfl rfl (by kernel_rfl) rfl) rfl ?_
      refine wl_gon rfl rfl ?_
      first | refine wl_rd (y_load 0 rfl rfl rfl (by kernel_rfl)) rfl ?_ | refine wl_rd (y_load 1 rfl rfl rfl (by kernel_rfl)) rfl ?_ | refine wl_rd (y_load 2 rfl rfl rfl (by kernel_rfl)) rfl ?_ | refine wl_rd (y_load 3 rfl rfl rfl (by kernel_rfl)) rfl ?_ | refine wl_rd (y_load 4 rfl rfl rfl (by kernel_rfl)) rfl ?_ | refine wl_rd (y_load 5 rfl rfl rfl (by kernel_rfl)) rfl ?_
      refine wl_gon rfl rfl ?_
      refine wl_pu (y_geq rfl rfl) rfl ?_
      refine wl_gon rfl rfl ?_
      first | refine wl_pu (y_pickT rfl rfl) rfl ?_ | refine wl_pu (y_pickF rfl rfl) rfl ?_
      first | refine wl_pu (y_pickT rfl rfl) rfl ?_ | refine wl_pu (y_pickF rfl rfl) rfl ?_
      refine wl_pu (y_assign rfl) rfl ?_
      refine wl_nil ?_
      refine at_then ?_
      -- at: cond
      refine wc_condD rfl (fun hge => ?_) (fun hge => ?_)
      · skip
        refine wc_seq ?_
        refine wc_region ?_
        first | refine wl_rd (y_loadAgg (k := 12) 0 rfl rfl rfl rfl (by kernel_rfl) (by kernel_rfl)) rfl ?_ | refine wl_rd (y_loadAgg (k := 12) 1 rfl rfl rfl rfl (by kernel_rfl) (by kernel_rfl)) rfl ?_ | refine wl_rd (y_loadAgg (k := 12) 2 rfl rfl rfl rfl (by kernel_rfl) (by kernel_rfl)) rfl ?_ | refine wl_rd (y_loadAgg (k := 12) 3 rfl rfl rfl rfl (by kernel_rfl) (by kernel_rfl)) rfl ?_ | refine wl_rd (y_loadAgg (k := 12) 4 rfl rfl rfl rfl (by kernel_rfl) (by kernel_rfl)) rfl ?_ | refine wl_rd (y_loadAgg (k := 12) 5 rfl rfl rfl rfl (by kernel_rfl) (by kernel_rfl)) rfl ?_
        first | (refine wl_do0 (d_storeAgg (k := 12) 0 rfl rfl rfl (by decide) rfl rfl (by kernel_rfl)) (fun _ _ hL => ?_); subst hL) | (refine wl_do0 (d_storeAgg (k := 12) 1 rfl rfl rfl (by decide) rfl rfl (by kernel_rfl)) (fun _ _ hL => ?_); subst hL) | (refine wl_do0 (d_storeAgg (k := 12) 2 rfl rfl rfl (by decide) rfl rfl (by kernel_rfl)) (fun _ _ hL => ?_); subst hL) | (refine wl_do0 (d_storeAgg (k := 12) 3 rfl rfl rfl (by decide) rfl rfl (by kernel_rfl)) (fun _ _ hL => ?_); subst hL) | (refine wl_do0 (d_storeAgg (k := 12) 4 rfl rfl rfl (by decide) rfl rfl (by kernel_rfl)) (fun _ _ hL => ?_); subst hL) | (refine wl_do0 (d_storeAgg (k := 12) 5 rfl rfl rfl (by decide) rfl rfl (by kernel_rfl)) (fun _ _ hL => ?_); subst hL)
        refine wl_pu (y_assign rfl) rfl ?_
        refine wl_pu (y_assign rfl) rfl ?_
        refine wl_nil ?_
        refine at_then ?_
        refine wc_ret ?_
        refine at_block_ret ?_
        refine at_then_ret ?_
        -- at: ret
        refine at_drop (at_drop ?_)
        refine at_heap ((b4, row 80 (spc ar me lv mb rw ev ep f 0)) :: F) rfl ?_
        refine at_retC2 (k := 12) (vs := spc ar me lv mb rw ev ep f 0) 0 rfl rfl rfl rfl rfl rfl rfl (by kernel_rfl) (by kernel_rfl) (fun _ hO => hO.drop) ?_
        exact ⟨by rw [if_neg (fun k => he k.1), if_pos (.inr ⟨by omega, hge⟩)], rfl⟩
      · skip
        refine wc_skip ?_
        refine at_block_normal ?_
        refine at_then ?_
        refine wc_seq ?_
        refine wc_region ?_
        first | refine wl_rd (y_loadAgg (k := 12) 0 rfl rfl rfl rfl (by kernel_rfl) (by kernel_rfl)) rfl ?_ | refine wl_rd (y_loadAgg (k := 12) 1 rfl rfl rfl rfl (by kernel_rfl) (by kernel_rfl)) rfl ?_ | refine wl_rd (y_loadAgg (k := 12) 2 rfl rfl rfl rfl (by kernel_rfl) (by kernel_rfl)) rfl ?_ | refine wl_rd (y_loadAgg (k := 12) 3 rfl rfl rfl rfl (by kernel_rfl) (by kernel_rfl)) rfl ?_ | refine wl_rd (y_loadAgg (k := 12) 4 rfl rfl rfl rfl (by kernel_rfl) (by kernel_rfl)) rfl ?_ | refine wl_rd (y_loadAgg (k := 12) 5 rfl rfl rfl rfl (by kernel_rfl) (by kernel_rfl)) rfl ?_
        first | (refine wl_do0 (d_storeAgg (k := 12) 0 rfl rfl rfl (by decide) rfl rfl (by kernel_rfl)) (fun _ _ hL => ?_); subst hL) | (refine wl_do0 (d_storeAgg (k := 12) 1 rfl rfl rfl (by decide) rfl rfl (by kernel_rfl)) (fun _ _ hL => ?_); subst hL) | (refine wl_do0 (d_storeAgg (k := 12) 2 rfl rfl rfl (by decide) rfl rfl (by kernel_rfl)) (fun _ _ hL => ?_); subst hL) | (refine wl_do0 (d_storeAgg (k := 12) 3 rfl rfl rfl (by decide) rfl rfl (by kernel_rfl)) (fun _ _ hL => ?_); subst hL) | (refine wl_do0 (d_storeAgg (k := 12) 4 rfl rfl rfl (by decide) rfl rfl (by kernel_rfl)) (fun _ _ hL => ?_); subst hL) | (refine wl_do0 (d_storeAgg (k := 12) 5 rfl rfl rfl (by decide) rfl rfl (by kernel_rfl)) (fun _ _ hL => ?_); subst hL)
        refine wl_pu (y_assign rfl) rfl ?_
        refine wl_pu (y_assign rfl) rfl ?_
        refine wl_nil ?_
        refine at_then ?_
        refine wc_ret ?_
        -- at: ret
        refine at_drop (at_drop ?_)
        refine at_heap ((b4, row 80 (spc ar' me' lv' mb' rw' ev' ep' f' 0)) :: F) rfl ?_
        refine at_retC2 (k := 12) (vs := spc ar' me' lv' mb' rw' ev' ep' f' 0) 0 rfl rfl rfl rfl rfl rfl rfl (by kernel_rfl) (by kernel_rfl) (fun _ hO => hO.drop) ?_
        exact ⟨by rw [if_neg (fun k => he k.1), if_neg (fun k => k.elim he' (fun k => hge k.2))], rfl⟩
end Go.Proofs.Ytkpndnjhfocheaa
