/- slices.Sort, AppendSeq, Collect, Sorted over whole numbers; the keys of a map as a sequence. -/
import Derived.Test.YtkpndnjhfocheaaSeqsA
namespace Go.Proofs.Ytkpndnjhfocheaa
open Go.SL
variable {X : Inhabited SL.Outside}

/-- Sorted in place. -/
def SRes (v : Value) (xs : List Int) (F : Hp) : Value → Hp → Prop := fun _ L' => ∃ (ys : List Int) (fr : Hp), ys.Perm xs ∧ ys.Pairwise (· ≤ ·) ∧ SlF 3 1 v ys.length (ys.map int) fr ∧ L' = fr ++ F

theorem ins0_spec (F : Hp) (p : Option Addr) (c : Nat) : Ctr Try.prog 174 [.slice p 0 c, int 0, int ((0 : Nat) : Int)] F (fun _ L' => L' = F) := by
  refine spec_body Try.func174 Try.ntmps174 rfl rfl ?_
  refine wc_seq ?_
  refine wc_region ?_
  refine wl_pu (y_move rfl) rfl ?_
  refine wl_pu (y_add rfl rfl (by omega)) rfl ?_
  refine wl_pu (y_assign rfl) rfl ?_
  refine wl_nil ?_
  refine at_then ?_
  refine wc_block ?_
  -- at: loop
  refine wc_loop (σ := Unit) (fun _ => True) (fun _ => 0) (fun _ => [(2, int ((0 : Nat) : Int)), (6, int (0 + 1))]) (fun _ => F) () trivial ⟨rfl, rfl, trivial⟩ rfl ?_
  intro _ _
  refine wc_seq ?_
  refine wc_seq ?_
  refine wc_region ?_
  refine wl_pu (y_move rfl) rfl ?_
  refine wl_pu (y_move rfl) rfl ?_
  refine wl_pu (y_lss rfl rfl) rfl ?_
  refine wl_nil ?_
  refine at_then ?_
  -- at: cond
  refine wc_condD rfl (fun hc => absurd hc ((by omega))) (fun _ => ?_)
  refine wc_exit ?_
  refine at_then_exit ?_
  refine at_then_exit ?_
  refine at_block_same ?_
  -- at: end
  refine at_end0 rfl ?_
  exact rfl

theorem insS_spec (F : Hp) {v : Value} {xs : List Int} {fr : Hp} (hS : SlF 3 1 v xs.length (xs.map int) fr) (hn : xs.length ≤ 1000000) : Ctr Try.prog 174 [v, int 0, int xs.length] (fr ++ F) (SRes v xs F) := by
  generalize hk : xs.length = k at hS
  generalize hc : xs.map int = cs at hS
  cases hS with
  | nil =>
    have hx : xs = [] := List.map_eq_nil_iff.1 hc
    subst hx
    refine (ins0_spec F none 0).mono ?_
    rintro _ L' hL
    exact ⟨[], [], List.Perm.refl _, List.Pairwise.nil, .nil, hL⟩
  | own b _ cap _ sp hx hcap hs =>
    subst hk
    subst hc
    refine (ins_spec F b cap xs sp hn).mono ?_
    rintro _ L' ⟨ys, hp, hw, rfl⟩
    exact ⟨ys, [(b, row 3 (ys.map int ++ sp))], hp, hw, by rw [← hp.length_eq] at hcap ⊢; exact .own b _ cap _ sp (by simp) hcap (by simpa [hp.length_eq] using hs), rfl⟩

theorem pdqI_spec (F : Hp) {v : Value} {xs : List Int} {fr : Hp} (r : Int) (hS : SlF 3 1 v xs.length (xs.map int) fr) (hn : xs.length ≤ 12) : Ctr Try.prog 136 [v, int 0, int xs.length, int r] (fr ++ F) (SRes v xs F) := by
  refine spec_body Try.func136 Try.ntmps136 rfl rfl ?_
  refine wc_seq ?_
  refine wc_region ?_
  refine wl_pu (y_assign rfl) rfl ?_
  refine wl_nil ?_
  refine at_then ?_
  refine wc_seq ?_
  refine wc_region ?_
  refine wl_pu (y_assign rfl) rfl ?_
  refine wl_nil ?_
  refine at_then ?_
  refine wc_block ?_
  -- at: loop
  refine wc_loop (σ := Unit) (fun _ => True) (fun _ => 0) (fun _ => [(0, v), (1, int 0), (2, int xs.length)]) (fun _ => fr ++ F) () trivial ⟨rfl, rfl, rfl, trivial⟩ rfl ?_
  intro _ _
  refine wc_block ?_
  refine wc_seq ?_
  refine wc_region ?_
  refine wl_pu (y_move rfl) rfl ?_
  refine wl_pu (y_move rfl) rfl ?_
  refine wl_pu (y_sub rfl rfl (by omega)) rfl ?_
  refine wl_pu (y_assign rfl) rfl ?_
  refine wl_nil ?_
  refine at_then ?_
  refine wc_seq ?_
  refine wc_seq ?_
  refine wc_region ?_
  refine wl_pu (y_move rfl) rfl ?_
  refine wl_pu (y_leq rfl rfl) rfl ?_
  refine wl_nil ?_
  refine at_then ?_
  -- at: cond
  refine wc_condD rfl (fun _ => ?_) (fun hc => absurd ((by omega)) hc)
  refine wc_seq ?_
  refine wc_region ?_
  refine wl_pu (y_move rfl) rfl ?_
  refine wl_pu (y_move rfl) rfl ?_
  refine wl_pu (y_move rfl) rfl ?_
  -- at: op (call {callee:(value (func 174)), args:[t24, t25, t26], argTypes:[74, 3, 3]})
  refine wl_do (d_call (by kernel_rfl) rfl (insS_spec F hS (by omega))) rfl ?_
  rintro _ _ ⟨ys, fr', hp, hw, hS', rfl⟩
  refine wl_nil ?_
  refine at_then ?_
  refine wc_ret ?_
  refine at_then_ret ?_
  refine at_block_ret ?_
  refine at_then_ret ?_
  refine at_block_ret ?_
  -- at: ret
  refine at_ret0 rfl ?_
  exact ⟨ys, fr', hp, hw, hS', rfl⟩

theorem sortI_spec (F : Hp) {v : Value} {xs : List Int} {fr : Hp} (hS : SlF 3 1 v xs.length (xs.map int) fr) (hn : xs.length ≤ 12) : Ctr Try.prog 91 [v] (fr ++ F) (SRes v xs F) := by
  obtain ⟨p, cap, hv⟩ := slF_form hS
  subst hv
  refine spec_body Try.func91 Try.ntmps91 rfl rfl ?_
  refine wc_seq ?_
  refine wc_region ?_
  refine wl_pu (y_move rfl) rfl ?_
  refine wl_pu (y_lenL Try.underlying74 rfl) rfl ?_
  refine wl_pu (y_assign rfl) rfl ?_
  refine wl_nil ?_
  refine at_then ?_
  refine wc_region ?_
  refine wl_pu (y_move rfl) rfl ?_
  refine wl_pu (y_move rfl) rfl ?_
  refine wl_pu (y_move rfl) rfl ?_
  first | refine wl_pu (y_conv Try.underlying3 Try.underlying112 rfl (IntWalk.u64_in _ (by omega))) rfl ?_ | refine wl_pu (y_conv Try.underlying3 Try.underlying112 rfl rfl) rfl ?_
  -- at: op (call {callee:(value (func 116)), args:[t8], argTypes:[112]})
  refine wl_do (d_call (by kernel_rfl) rfl (bits_spec _ _ (by omega))) rfl ?_
  rintro _ _ ⟨⟨r, rfl⟩, rfl⟩
  -- at: op (call {callee:(value (func 136)), args:[t5, c:(int i64 0), t6, t9], argTypes:[74, 3, 3, 3]})
  refine wl_do (d_call (by kernel_rfl) rfl (pdqI_spec F r hS hn)) rfl ?_
  rintro _ _ ⟨ys, fr', hp, hw, hS', rfl⟩
  refine wl_nil ?_
  -- at: end
  refine at_end0 rfl ?_
  exact ⟨ys, fr', hp, hw, hS', rfl⟩

theorem built1 {v : Value} (h : v.oneCell' = true) : builtS Try.prog 3 1 [(0, v)] = some ⟨[v]⟩ := by
  cases v <;> first | (cases h; done) | kernel_rfl
/-! slices.AppendSeq of nothing and a sequence -/
theorem mid_perm {x : Nat × Obj} {C fr F : Hp} : (C ++ (fr ++ x :: F)).Perm (fr ++ x :: (C ++ F)) := by
  refine (List.perm_append_comm).trans ?_
  rw [List.append_assoc, List.cons_append]
  exact List.Perm.append_left fr (List.Perm.cons _ List.perm_append_comm)

theorem appendI_spec (F A : Hp) {gf : FuncId} {lb : List Value} {S : List Value → Prop} {N : Nat} {Ok : Value → Prop} (he : enters Try.prog gf = true) (hI : Iter Try.prog gf lb A S N Ok) (hN : N ≤ 1000000) (hOk : ∀ v, Ok v → v.oneCell' = true) :
    Ctr Try.prog 189 [.slice none 0 0, .func (.func gf) #[] ⟨lb⟩] (A ++ F) (fun v L' => ∃ xs fr, S xs ∧ SlF 3 1 v xs.length xs fr ∧ L' = fr ++ (A ++ F)) := by
  refine spec_marks Try.func189 Try.ntmps189 rfl rfl ?_
  refine ci_seq (ci_region (l := [_, _]) (li_do (d_box rfl) rfl rfl ?_))
  rintro _ _ ⟨bs, rfl, rfl⟩
  refine li_pu (y_assign rfl) rfl rfl (li_nil (ai_then (ci_seq (ci_seq (ci_region (l := [_]) (li_pu (y_move rfl) rfl rfl (li_nil (ai_then (ci_block ?_)))))))))
  refine ci_perm (L' := A ++ ((bs, row 74 [.slice none 0 0]) :: F)) perm_mid.symm ?_
  refine ci_rangeFunc he rfl rfl rfl hI (fun xs B => ∃ v fr, SlF 3 1 v xs.length xs fr ∧ B = fr ++ (bs, row 74 [v]) :: F) ⟨_, [], .nil, rfl⟩ ?_ ?_
  · rintro l C pre v B hlt hv ⟨s, fr, hS, rfl⟩
    refine ci_block (ci_perm (L' := (bs, row 74 [s]) :: (fr ++ (C ++ F))) (mid_perm.trans perm_mid) ?_)
    refine ci_region (l := [_, _, _, _, _]) (li_rd (y_load 0 rfl rfl rfl (by kernel_rfl)) rfl rfl (li_pu (y_move rfl) rfl rfl (li_do (d_buildSlice [v] Try.underlying74 rfl (built1 (hOk v hv))) rfl rfl ?_)))
    rintro _ _ ⟨b1, rfl, rfl⟩
    refine li_perm (L' := fr ++ ((b1, row 3 [v]) :: (bs, row 74 [s]) :: (C ++ F))) ((List.Perm.cons _ perm_mid.symm).trans perm_mid.symm) ?_
    refine li_do (d_append (sz := 1) (bytes := 8) (L0 := (b1, row 3 [v]) :: (bs, row 74 [s]) :: (C ++ F)) 0 (int 0) Try.underlying74 (by kernel_rfl) rfl rfl rfl hS rfl rfl (news := [v]) rfl rfl (by simp [allOne, hOk v hv]) (by omega) (by omega)) rfl rfl ?_
    rintro s' _ ⟨fr', hS', rfl⟩
    refine li_perm (L' := (bs, row 74 [s]) :: (b1, row 3 [v]) :: (fr' ++ (C ++ F))) ?_ ?_
    · exact (perm_mid.trans (List.Perm.cons _ perm_mid)).trans Go.SL.p1
    refine li_do0 (d_store 0 rfl rfl rfl rfl (slF_one hS') (by kernel_rfl)) rfl ?_
    rintro _ _ rfl
    refine li_nil (ai_block ?_)
    intro a w hF hO
    refine ⟨rfl, _, ⟨s', fr', by simpa using hS', rfl⟩, ?_⟩
    have hO' : Own w ((b1, row 3 [v]) :: (bs, row 74 [s']) :: (fr' ++ (C ++ F))) := hO.perm Go.SL.p1
    exact hO'.drop.perm (perm_mid.symm.trans mid_perm.symm)
  · rintro D xs B hS ⟨v, fr, hF, rfl⟩
    refine ai_block (ai_then (ci_seq ?_))
    refine ci_perm (L' := (bs, row 74 [v]) :: (D, .deferred (some [])) :: (fr ++ (A ++ F))) ?_ ?_
    · exact (List.Perm.cons _ (mid_perm.trans perm_mid)).trans Go.SL.p1
    refine ci_region (l := [_, _]) (li_rd (y_load 0 rfl rfl rfl (by kernel_rfl)) rfl rfl (li_pu (y_assign rfl) rfl rfl (li_nil (ai_then (ci_ret ?_)))))
    refine ai_drop ?_
    exact ai_retM (R := fun v L' => ∃ xs fr, S xs ∧ SlF 3 1 v xs.length xs fr ∧ L' = fr ++ (A ++ F)) rfl rfl ⟨xs, fr, hS, hF, rfl⟩
end Go.Proofs.Ytkpndnjhfocheaa
