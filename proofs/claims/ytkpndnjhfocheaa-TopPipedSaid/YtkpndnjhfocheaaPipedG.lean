/- The wheel's Advance with one timer. -/
import Derived.Test.YtkpndnjhfocheaaPipedF
namespace Go.Proofs.Ytkpndnjhfocheaa
open Go.SL
variable {X : Inhabited SL.Outside}

structure WS where
  i : Nat
  dp : Option Addr
  dm : Nat
  dc : Nat
  rp : Option Addr
  rm : Nat
  rc : Nat
  ex : Hp

/-- What one round makes of the timer: due, or kept. -/
def WSplit (due now : Int) (ts : List Value) (s : WS) : Prop :=
  (due ≤ now ∧ s.dm = 1 ∧ s.rp = none ∧ s.rm = 0 ∧ s.rc = 0 ∧ SlF 151 3 (.slice s.dp 1 s.dc) 1 ts s.ex) ∨
  (¬ due ≤ now ∧ s.dp = none ∧ s.dm = 0 ∧ s.dc = 0 ∧ s.rm = 1 ∧ SlF 151 3 (.slice s.rp 1 s.rc) 1 ts s.ex)

theorem wadv1_spec (F fr : Hp) (b k c : Nat) (p : Option Addr) (now last to id due x : Int) (hk : k < 16) (hS : SlF 151 3 (.slice p 1 c) 1 (tm id due x) fr) :
    Ctr Try.prog 29 [ptr b 0, int to] ((b, whl (at1 k p 1 c) now last) :: (fr ++ F))
      (fun v L' => (due ≤ max now to ∧ (∃ q c', v = .slice q 1 c') ∧ L' = (b, whl nils (max now to) last) :: F) ∨
        (¬ due ≤ max now to ∧ v = .slice none 0 0 ∧ ∃ p' c' fr', SlF 151 3 (.slice p' 1 c') 1 (tm id due x) fr' ∧ L' = (b, whl (at1 k p' 1 c') (max now to) last) :: (fr' ++ F))) := by
  refine spec_body Try.func29 Try.ntmps29 rfl rfl ?_
  refine wc_seq ?_
  refine wc_region ?_
  refine wl_pu (y_assign rfl) rfl ?_
  refine wl_nil ?_
  refine at_then ?_
  refine wc_seq ?_
  refine wc_seq ?_
  refine wc_region ?_
  refine wl_pu (y_move rfl) rfl ?_
  -- at: op (call {callee:(value (func 62)), args:[t13], argTypes:[54]})
  refine wl_do (d_call (by kernel_rfl) rfl (wnone_spec _ _ _ _ _)) rfl ?_
  rintro _ _ ⟨rfl, rfl⟩
  refine wl_nil ?_
  refine at_then ?_
  -- at: cond
  refine wc_condF rfl ?_
  refine wc_skip ?_
  refine at_then ?_
  refine wc_seq ?_
  refine wc_region ?_
  refine wl_pu (y_move rfl) rfl ?_
  refine wl_pu (y_move rfl) rfl ?_
  refine wl_pu (y_nil rfl) rfl ?_
  first | refine wl_pu (y_fieldAddr0 16 Try.underlying147 rfl rfl (by kernel_rfl) rfl) rfl ?_ | refine wl_pu (y_fieldAddr 16 Try.underlying147 rfl rfl (by kernel_rfl) rfl) rfl ?_
  refine wl_rd (y_load 0 rfl rfl (v := int now) rfl (by kernel_rfl)) rfl ?_
  refine wl_pu (y_move rfl) rfl ?_
  refine wl_pu (y_max rfl rfl) rfl ?_
  refine wl_pu (y_nil rfl) rfl ?_
  first | refine wl_pu (y_fieldAddr0 16 Try.underlying147 rfl rfl (by kernel_rfl) rfl) rfl ?_ | refine wl_pu (y_fieldAddr 16 Try.underlying147 rfl rfl (by kernel_rfl) rfl) rfl ?_
  refine wl_do0 (d_store 0 rfl rfl rfl rfl rfl (by kernel_rfl)) (fun _ _ hL => ?_)
  subst hL
  refine wl_heap ((b, whl (mix 0 (at1 k p 1 c) (at1 k none 0 0)) (max now to) last) :: (fr ++ F)) (by rw [mix_zero]; rfl) ?_
  generalize hnow : max now to = nw at *
  refine wl_nil ?_
  refine at_then ?_
  refine wc_seq ?_
  refine wc_region ?_
  refine wl_pu (y_assign rfl) rfl ?_
  refine wl_nil ?_
  refine at_then ?_
  refine wc_seq ?_
  refine wc_seq ?_
  refine wc_region ?_
  refine wl_pu (y_move rfl) rfl ?_
  refine wl_nil ?_
  refine at_then ?_
  refine wc_block ?_
  -- at: loop
  refine wc_loop (σ := WS) (fun s => s.i ≤ 16 ∧ ((s.i ≤ k ∧ s.dp = none ∧ s.dm = 0 ∧ s.dc = 0 ∧ s.rp = none ∧ s.rm = 0 ∧ s.rc = 0 ∧ s.ex = fr) ∨ (k < s.i ∧ WSplit due nw (tm id due x) s))) (fun s => 16 - s.i)
    (fun s => [(0, ptr b 0), (5, .slice s.dp s.dm s.dc), (24, int (s.i : Int))])
    (fun s => (b, whl (mix s.i (at1 k p 1 c) (at1 k s.rp s.rm s.rc)) nw last) :: (s.ex ++ F)) ⟨0, none, 0, 0, none, 0, 0, fr⟩ ⟨by simp, .inl ⟨by simp, rfl, rfl, rfl, rfl, rfl, rfl, rfl⟩⟩ ⟨rfl, rfl, rfl, trivial⟩ rfl ?_
  rintro ⟨i, dp, dm, dc, rp, rm, rc, ex⟩ ⟨hi, hI⟩
  simp only [] at hi hI
  show WC _ _ _ _ [(0, ptr b 0), (5, .slice dp dm dc), (24, int (i : Int))] ((b, whl (mix i (at1 k p 1 c) (at1 k rp rm rc)) nw last) :: (ex ++ F))
  refine wc_seq ?_
  refine wc_region ?_
  refine wl_pu (y_lss rfl rfl) rfl ?_
  refine wl_nil ?_
  refine at_then ?_
  refine wc_seq ?_
  -- at: cond
  refine wc_condD rfl (fun h => ?_) (fun h => ?_)
  · skip
    refine wc_skip ?_
    refine at_then ?_
    refine wc_seq ?_
    refine wc_block ?_
    refine wc_seq ?_
    refine wc_region ?_
    refine wl_pu (y_move rfl) rfl ?_
    refine wl_pu (y_assign rfl) rfl ?_
    refine wl_nil ?_
    refine at_then ?_
    refine wc_seq ?_
    refine wc_region ?_
    refine wl_pu (y_assign rfl) rfl ?_
    refine wl_nil ?_
    refine at_then ?_
    refine wc_seq ?_
    refine wc_seq ?_
    refine wc_region ?_
    refine wl_pu (y_move rfl) rfl ?_
    refine wl_pu (y_move rfl) rfl ?_
    refine wl_pu (y_nil rfl) rfl ?_
    first | refine wl_pu (y_fieldAddr0 0 Try.underlying147 rfl rfl (by kernel_rfl) rfl) rfl ?_ | refine wl_pu (y_fieldAddr 0 Try.underlying147 rfl rfl (by kernel_rfl) rfl) rfl ?_
    refine wl_pu (y_ixA 1 Try.underlying145 (by kernel_rfl) rfl rfl (by omega)) rfl ?_
    have hix : 0 + (i : Int).toNat * 1 = i := by omega
    by_cases hik : i = k
    · skip
      subst hik
      have hst : dp = none ∧ dm = 0 ∧ dc = 0 ∧ rp = none ∧ rm = 0 ∧ rc = 0 ∧ ex = fr := by
        rcases hI with hI | hI
        · exact hI.2
        · omega
      obtain ⟨rfl, rfl, rfl, rfl, rfl, rfl, rfl⟩ := hst
      have h0 : mix i (at1 i p 1 c) (at1 i none 0 0) i = .slice p 1 c := by rw [mix_at]; exact at1_self _ _ _ _
      cases hS with
      | own b1 _ _ _ sp hx hc hs =>
      refine wl_rd (y_load 0 rfl rfl (v := sl b1 0 1 c) (by rw [hix]; exact (wrow_nth _ _ _ _ (by omega)).trans (congrArg some h0)) (by kernel_rfl)) rfl ?_
      refine wl_pu (y_lenL Try.underlying144 rfl) rfl ?_
      refine wl_pu (y_move rfl) rfl ?_
      refine wl_nil ?_
      refine at_then ?_
      refine wc_block ?_
      -- at: loop
      refine wc_loop (σ := Nat × WS) (fun s => s.1 ≤ 1 ∧ ((s.1 = 0 ∧ s.2.dp = none ∧ s.2.dm = 0 ∧ s.2.dc = 0 ∧ s.2.rp = none ∧ s.2.rm = 0 ∧ s.2.rc = 0 ∧ s.2.ex = [(b1, row 151 (tm id due x ++ sp))]) ∨ (s.1 = 1 ∧ WSplit due nw (tm id due x) s.2))) (fun s => 1 - s.1)
        (fun s => [(0, ptr b 0), (5, .slice s.2.dp s.2.dm s.2.dc), (6, int (i : Int)), (7, .slice s.2.rp s.2.rm s.2.rc), (24, int (i : Int)), (32, sl b1 0 1 c), (33, int 1), (34, int (s.1 : Int))])
        (fun s => (b, whl (mix i (at1 i (some ⟨b1, 0, none⟩) 1 c) (at1 i none 0 0)) nw last) :: (s.2.ex ++ F)) ⟨0, i, none, 0, 0, none, 0, 0, [(b1, row 151 (tm id due x ++ sp))]⟩ ⟨by simp, .inl ⟨rfl, rfl, rfl, rfl, rfl, rfl, rfl, rfl⟩⟩ ⟨rfl, rfl, rfl, rfl, rfl, rfl, rfl, rfl, trivial⟩ rfl ?_
      rintro ⟨j, i', dp, dm, dc, rp, rm, rc, ex⟩ ⟨hj, hJ⟩
      simp only [] at hj hJ
      show WC _ _ _ _ [(0, ptr b 0), (5, .slice dp dm dc), (6, int (i : Int)), (7, .slice rp rm rc), (24, int (i : Int)), (32, sl b1 0 1 c), (33, int 1), (34, int (j : Int))] ((b, whl (mix i (at1 i (some ⟨b1, 0, none⟩) 1 c) (at1 i none 0 0)) nw last) :: (ex ++ F))
      refine wc_seq ?_
      refine wc_region ?_
      refine wl_pu (y_lss rfl rfl) rfl ?_
      refine wl_nil ?_
      refine at_then ?_
      refine wc_seq ?_
      -- at: cond
      refine wc_condD rfl (fun hj1 => ?_) (fun hj1 => ?_)
      · skip
        have hst : j = 0 ∧ dp = none ∧ dm = 0 ∧ dc = 0 ∧ rp = none ∧ rm = 0 ∧ rc = 0 ∧ ex = [(b1, row 151 (tm id due x ++ sp))] := by
          rcases hJ with hJ | hJ
          · exact hJ
          · omega
        obtain ⟨rfl, rfl, rfl, rfl, rfl, rfl, rfl, rfl⟩ := hst
        refine wc_heap ((b, whl (mix i (at1 i (some ⟨b1, 0, none⟩) 1 c) (at1 i none 0 0)) nw last) :: (b1, row 151 (tm id due x ++ sp)) :: F) rfl ?_
        refine wc_skip ?_
        refine at_then ?_
        refine wc_seq ?_
        refine wc_block ?_
        refine wc_seq ?_
        refine wc_region ?_
        refine wl_pu (y_ix 3 Try.underlying144 (by kernel_rfl) rfl rfl (by omega)) rfl ?_
        refine wl_rd (y_loadAgg (k := 3) (vs := tm id due x) 1 rfl rfl rfl rfl (by kernel_rfl) (by kernel_rfl)) rfl ?_
        refine wl_do (d_alloc (z := .agg #[int 0, int 0, .int .u32 0]) (zeroB_of (by kernel_rfl))) rfl ?_
        rintro _ _ ⟨b9, rfl, rfl⟩
        first | (refine wl_do0 (d_storeAgg (k := 3) 0 rfl rfl rfl (by decide) rfl rfl (by kernel_rfl)) (fun _ _ hL => ?_); subst hL) | (refine wl_do0 (d_storeAgg (k := 3) 1 rfl rfl rfl (by decide) rfl rfl (by kernel_rfl)) (fun _ _ hL => ?_); subst hL) | (refine wl_do0 (d_storeAgg (k := 3) 2 rfl rfl rfl (by decide) rfl rfl (by kernel_rfl)) (fun _ _ hL => ?_); subst hL) | (refine wl_do0 (d_storeAgg (k := 3) 3 rfl rfl rfl (by decide) rfl rfl (by kernel_rfl)) (fun _ _ hL => ?_); subst hL) | (refine wl_do0 (d_storeAgg (k := 3) 4 rfl rfl rfl (by decide) rfl rfl (by kernel_rfl)) (fun _ _ hL => ?_); subst hL) | (refine wl_do0 (d_storeAgg (k := 3) 5 rfl rfl rfl (by decide) rfl rfl (by kernel_rfl)) (fun _ _ hL => ?_); subst hL)
        refine wl_nil ?_
        refine at_then ?_
        refine wc_seq ?_
        -- at: draw
        refine wc_heap ((b9, row 151 (tm id due x)) :: (b, whl (mix i (at1 i (some ⟨b1, 0, none⟩) 1 c) (at1 i none 0 0)) nw last) :: (b1, row 151 (tm id due x ++ sp)) :: F) rfl ?_
        apply wc_draw 7 (pl := [_, _, _, _, _, _, _]) (by kernel_rfl)
        rotate_left
        first | refine hw_pu (y_fieldAddr0 1 Try.underlying151 rfl rfl (by kernel_rfl) rfl) ?_ | refine hw_pu (y_fieldAddr 1 Try.underlying151 rfl rfl (by kernel_rfl) rfl) ?_
        first | refine hw_rd (y_load 0 rfl rfl rfl (by kernel_rfl)) ?_ | refine hw_rd (y_load 1 rfl rfl rfl (by kernel_rfl)) ?_ | refine hw_rd (y_load 2 rfl rfl rfl (by kernel_rfl)) ?_ | refine hw_rd (y_load 3 rfl rfl rfl (by kernel_rfl)) ?_ | refine hw_rd (y_load 4 rfl rfl rfl (by kernel_rfl)) ?_ | refine hw_rd (y_load 5 rfl rfl rfl (by kernel_rfl)) ?_
        refine hw_pu (y_move rfl) ?_
        refine hw_pu (y_nil rfl) ?_
        first | refine hw_pu (y_fieldAddr0 16 Try.underlying147 rfl rfl (by kernel_rfl) rfl) ?_ | refine hw_pu (y_fieldAddr 16 Try.underlying147 rfl rfl (by kernel_rfl) rfl) ?_
        first | refine hw_rd (y_load 0 rfl rfl rfl (by kernel_rfl)) ?_ | refine hw_rd (y_load 1 rfl rfl rfl (by kernel_rfl)) ?_ | refine hw_rd (y_load 2 rfl rfl rfl (by kernel_rfl)) ?_ | refine hw_rd (y_load 3 rfl rfl rfl (by kernel_rfl)) ?_ | refine hw_rd (y_load 4 rfl rfl rfl (by kernel_rfl)) ?_ | refine hw_rd (y_load 5 rfl rfl rfl (by kernel_rfl)) ?_
        refine hw_pu (y_leq rfl rfl) ?_
        refine hw_end [] rfl ?_
        case hB => kernel_rfl
        refine wl_nil ?_
        refine at_nq ?_
        refine at_then ?_
        -- at: cond
        refine wc_condD rfl (fun hdue => ?_) (fun hdue => ?_)
        · skip
          refine wc_region ?_
          refine wl_pu (y_move rfl) rfl ?_
          first | refine wl_rd (y_loadAgg (k := 3) 0 rfl rfl rfl rfl (by kernel_rfl) (by kernel_rfl)) rfl ?_ | refine wl_rd (y_loadAgg (k := 3) 1 rfl rfl rfl rfl (by kernel_rfl) (by kernel_rfl)) rfl ?_ | refine wl_rd (y_loadAgg (k := 3) 2 rfl rfl rfl rfl (by kernel_rfl) (by kernel_rfl)) rfl ?_ | refine wl_rd (y_loadAgg (k := 3) 3 rfl rfl rfl rfl (by kernel_rfl) (by kernel_rfl)) rfl ?_ | refine wl_rd (y_loadAgg (k := 3) 4 rfl rfl rfl rfl (by kernel_rfl) (by kernel_rfl)) rfl ?_ | refine wl_rd (y_loadAgg (k := 3) 5 rfl rfl rfl rfl (by kernel_rfl) (by kernel_rfl)) rfl ?_
          -- at: op (buildSlice 144 1 [(0, t46)])
          refine wl_do (d_buildSlice (tm id due x) Try.underlying144 rfl (by kernel_rfl)) rfl ?_
          rintro _ _ ⟨b8, rfl, rfl⟩
          refine wl_do (d_append (sz := 3) (bytes := 24) (fr := []) 0 (.agg #[int 0, int 0, .int .u32 0]) Try.underlying144 (by kernel_rfl) rfl rfl rfl .nil rfl rfl (news := tm id due x) rfl rfl rfl (by omega) (by omega)) rfl ?_
          rintro v1 _ ⟨fr1, hS1, rfl⟩
          obtain ⟨p1, cap1, rfl⟩ := slF_form hS1
          refine wl_perm (List.perm_append_comm_assoc fr1 [(b8, row 151 (tm id due x)), (b9, row 151 (tm id due x)), (b, whl (mix i (at1 i (some ⟨b1, 0, none⟩) 1 c) (at1 i none 0 0)) nw last), (b1, row 151 (tm id due x ++ sp))] F) ?_
          refine wl_drop (wl_drop (wl_perm Go.SL.p1 (wl_drop ?_)))
          refine wl_pu (y_assign rfl) rfl ?_
          refine wl_nil ?_
          refine at_block_normal ?_
          refine at_then ?_
          refine wc_region ?_
          refine wl_pu (y_add rfl rfl (by omega)) rfl ?_
          refine wl_pu (y_move rfl) rfl ?_
          refine wl_nil ?_
          -- at: round
          exact at_again ⟨1, i', p1, 1, cap1, none, 0, 0, fr1⟩ ⟨by simp, .inr ⟨rfl, .inl ⟨hdue, rfl, rfl, rfl, rfl, hS1⟩⟩⟩ (by simp) ⟨rfl, rfl, rfl, rfl, rfl, rfl, rfl, rfl, trivial⟩ rfl
        · skip
          refine wc_region ?_
          refine wl_pu (y_move rfl) rfl ?_
          first | refine wl_rd (y_loadAgg (k := 3) 0 rfl rfl rfl rfl (by kernel_rfl) (by kernel_rfl)) rfl ?_ | refine wl_rd (y_loadAgg (k := 3) 1 rfl rfl rfl rfl (by kernel_rfl) (by kernel_rfl)) rfl ?_ | refine wl_rd (y_loadAgg (k := 3) 2 rfl rfl rfl rfl (by kernel_rfl) (by kernel_rfl)) rfl ?_ | refine wl_rd (y_loadAgg (k := 3) 3 rfl rfl rfl rfl (by kernel_rfl) (by kernel_rfl)) rfl ?_ | refine wl_rd (y_loadAgg (k := 3) 4 rfl rfl rfl rfl (by kernel_rfl) (by kernel_rfl)) rfl ?_ | refine wl_rd (y_loadAgg (k := 3) 5 rfl rfl rfl rfl (by kernel_rfl) (by kernel_rfl)) rfl ?_
          -- at: op (buildSlice 144 1 [(0, t50)])
          refine wl_do (d_buildSlice (tm id due x) Try.underlying144 rfl (by kernel_rfl)) rfl ?_
          rintro _ _ ⟨b8, rfl, rfl⟩
          refine wl_do (d_append (sz := 3) (bytes := 24) (fr := []) 0 (.agg #[int 0, int 0, .int .u32 0]) Try.underlying144 (by kernel_rfl) rfl rfl rfl .nil rfl rfl (news := tm id due x) rfl rfl rfl (by omega) (by omega)) rfl ?_
          rintro v1 _ ⟨fr1, hS1, rfl⟩
          obtain ⟨p1, cap1, rfl⟩ := slF_form hS1
          refine wl_perm (List.perm_append_comm_assoc fr1 [(b8, row 151 (tm id due x)), (b9, row 151 (tm id due x)), (b, whl (mix i (at1 i (some ⟨b1, 0, none⟩) 1 c) (at1 i none 0 0)) nw last), (b1, row 151 (tm id due x ++ sp))] F) ?_
          refine wl_drop (wl_drop (wl_perm Go.SL.p1 (wl_drop ?_)))
          refine wl_pu (y_assign rfl) rfl ?_
          refine wl_nil ?_
          refine at_block_normal ?_
          refine at_then ?_
          refine wc_region ?_
          refine wl_pu (y_add rfl rfl (by omega)) rfl ?_
          refine wl_pu (y_move rfl) rfl ?_
          refine wl_nil ?_
          -- at: round
          exact at_again ⟨1, i', none, 0, 0, p1, 1, cap1, fr1⟩ ⟨by simp, .inr ⟨rfl, .inr ⟨hdue, rfl, rfl, rfl, rfl, hS1⟩⟩⟩ (by simp) ⟨rfl, rfl, rfl, rfl, rfl, rfl, rfl, rfl, trivial⟩ rfl
      · skip
        obtain ⟨hj', hW⟩ : j = 1 ∧ WSplit due nw (tm id due x) ⟨i', dp, dm, dc, rp, rm, rc, ex⟩ := by
          rcases hJ with hJ | hJ
          · omega
          · exact hJ
        subst hj'
        refine wc_exit ?_
        refine at_then_exit ?_
        refine at_then_exit ?_
        refine at_block_same ?_
        refine at_then ?_
        refine wc_region ?_
        refine wl_pu (y_move rfl) rfl ?_
        refine wl_pu (y_move rfl) rfl ?_
        refine wl_pu (y_move rfl) rfl ?_
        refine wl_pu (y_nil rfl) rfl ?_
        first | refine wl_pu (y_fieldAddr0 0 Try.underlying147 rfl rfl (by kernel_rfl) rfl) rfl ?_ | refine wl_pu (y_fieldAddr 0 Try.underlying147 rfl rfl (by kernel_rfl) rfl) rfl ?_
        refine wl_pu (y_ixA 1 Try.underlying145 (by kernel_rfl) rfl rfl (by omega)) rfl ?_
        refine wl_do0 (d_store 0 rfl rfl rfl (by rw [wrow_len, hix]; exact blt_of (by omega)) rfl (by kernel_rfl)) (fun _ _ hL => ?_)
        subst hL
        refine wl_heap ((b, whl (mix (i + 1) (at1 i (some ⟨b1, 0, none⟩) 1 c) (at1 i rp rm rc)) nw last) :: (ex ++ F)) ?_ ?_
        · exact congrArg (fun X => (b, row 147 X) :: (ex ++ F)) (by
            rw [hix, wrow_set _ _ _ _ (by omega)]
            refine congrArg (fun f => wrow f nw last) ?_
            have e : mix i (at1 i (some ⟨b1, 0, none⟩) 1 c) (at1 i none 0 0) = mix i (at1 i (some ⟨b1, 0, none⟩) 1 c) (at1 i rp rm rc) := by
              funext q
              simp only [mix]
              by_cases hq : q < i
              · rw [if_pos hq, if_pos hq, at1_ne _ _ _ (by omega), at1_ne _ _ _ (by omega)]
              · rw [if_neg hq, if_neg hq]
            rw [e]
            exact mix_set _ _ _ _ (at1_self _ _ _ _))
        refine wl_nil ?_
        refine at_block_normal ?_
        refine at_then ?_
        refine wc_region ?_
        refine wl_pu (y_add rfl rfl (by omega)) rfl ?_
        refine wl_pu (y_move rfl) rfl ?_
        refine wl_nil ?_
        -- at: round
        exact at_again ⟨i + 1, dp, dm, dc, rp, rm, rc, ex⟩ ⟨by simp only []; omega, .inr ⟨by simp only []; omega, hW⟩⟩ (by simp only []; omega) ⟨rfl, rfl, rfl, trivial⟩ rfl
    · skip
      have h0 : mix i (at1 k p 1 c) (at1 k rp rm rc) i = .slice none 0 0 := by rw [mix_at]; exact at1_ne _ _ _ hik
      refine wl_rd (y_load 0 rfl rfl (v := .slice none 0 0) (by rw [hix]; exact (wrow_nth _ _ _ _ (by omega)).trans (congrArg some h0)) (by kernel_rfl)) rfl ?_
      refine wl_pu (y_lenL Try.underlying144 rfl) rfl ?_
      refine wl_pu (y_move rfl) rfl ?_
      refine wl_nil ?_
      refine at_then ?_
      refine wc_block ?_
      -- at: loop
      refine wc_loop (σ := Unit) (fun _ => True) (fun _ => 0) (fun _ => [(0, ptr b 0), (5, .slice dp dm dc), (6, int (i : Int)), (7, .slice none 0 0), (24, int (i : Int)), (33, int 0), (34, int 0)]) (fun _ => (b, whl (mix i (at1 k p 1 c) (at1 k rp rm rc)) nw last) :: (ex ++ F)) () trivial ⟨rfl, rfl, rfl, rfl, rfl, rfl, rfl, trivial⟩ rfl ?_
      intro _ _
      refine wc_seq ?_
      refine wc_region ?_
      refine wl_pu (y_lss rfl rfl) rfl ?_
      refine wl_nil ?_
      refine at_then ?_
      refine wc_seq ?_
      -- at: cond
      refine wc_condD rfl (fun hc => absurd hc ((by omega))) (fun _ => ?_)
      refine wc_exit ?_
      refine at_then_exit ?_
      refine at_then_exit ?_
      refine at_block_same ?_
      refine at_then ?_
      refine wc_region ?_
      refine wl_pu (y_move rfl) rfl ?_
      refine wl_pu (y_move rfl) rfl ?_
      refine wl_pu (y_move rfl) rfl ?_
      refine wl_pu (y_nil rfl) rfl ?_
      first | refine wl_pu (y_fieldAddr0 0 Try.underlying147 rfl rfl (by kernel_rfl) rfl) rfl ?_ | refine wl_pu (y_fieldAddr 0 Try.underlying147 rfl rfl (by kernel_rfl) rfl) rfl ?_
      refine wl_pu (y_ixA 1 Try.underlying145 (by kernel_rfl) rfl rfl (by omega)) rfl ?_
      refine wl_do0 (d_store 0 rfl rfl rfl (by rw [wrow_len, hix]; exact blt_of (by omega)) rfl (by kernel_rfl)) (fun _ _ hL => ?_)
      subst hL
      refine wl_heap ((b, whl (mix (i + 1) (at1 k p 1 c) (at1 k rp rm rc)) nw last) :: (ex ++ F)) ?_ ?_
      · exact congrArg (fun X => (b, row 147 X) :: (ex ++ F)) (by rw [hix, wrow_set _ _ _ _ (by omega)]; exact congrArg (fun f => wrow f nw last) (mix_set _ _ _ _ (at1_ne _ _ _ hik)))
      refine wl_nil ?_
      refine at_block_normal ?_
      refine at_then ?_
      refine wc_region ?_
      refine wl_pu (y_add rfl rfl (by omega)) rfl ?_
      refine wl_pu (y_move rfl) rfl ?_
      refine wl_nil ?_
      -- at: round
      refine at_again ⟨i + 1, dp, dm, dc, rp, rm, rc, ex⟩ ⟨by simp only []; omega, ?_⟩ (by simp only []; omega) ⟨rfl, rfl, rfl, trivial⟩ rfl
      rcases hI with hI | hI
      · exact .inl ⟨by simp only []; omega, hI.2⟩
      · exact .inr ⟨by simp only []; omega, hI.2⟩
  · skip
    have hW : WSplit due nw (tm id due x) ⟨i, dp, dm, dc, rp, rm, rc, ex⟩ := by
      rcases hI with hI | hI
      · omega
      · exact hI.2
    have hi16 : i = 16 := by omega
    subst hi16
    refine wc_heap ((b, whl (at1 k rp rm rc) nw last) :: (ex ++ F)) (congrArg (fun X => (b, row 147 X) :: (ex ++ F)) (mix_all _ _ _ _)) ?_
    rcases hW with ⟨hdue, h1, h2, h3, h4, hS2⟩ | ⟨hdue, h1, h2, h3, h4, hS2⟩
    · simp only [] at h1 h2 h3 h4 hS2
      subst h1 h2 h3 h4
      rw [at1_nil]
      refine wc_exit ?_
      refine at_then_exit ?_
      refine at_then_exit ?_
      refine at_block_same ?_
      refine at_then ?_
      refine wc_seq ?_
      refine wc_region ?_
      refine wl_pu (y_move rfl) rfl ?_
      refine wl_do (d_call (by kernel_rfl) rfl (wsort_spec _ _ _ _ (by omega))) rfl ?_
      rintro _ _ rfl
      refine wl_nil ?_
      refine at_then ?_
      refine wc_seq ?_
      refine wc_region ?_
      refine wl_pu (y_assign rfl) rfl ?_
      refine wl_nil ?_
      refine at_then ?_
      refine wc_seq ?_
      refine wc_seq ?_
      refine wc_region ?_
      refine wl_pu (y_move rfl) rfl ?_
      refine wl_pu (y_lenL Try.underlying144 rfl) rfl ?_
      refine wl_pu (y_move rfl) rfl ?_
      refine wl_nil ?_
      refine at_then ?_
      refine wc_block ?_
      -- at: loop
      cases hS2 with
      | own b2 _ _ _ sp2 hx2 hc2 hs2 =>
      refine wc_loop (σ := Nat × Option Addr × Nat × Nat) (fun s => s.1 ≤ 1 ∧ ((s.1 = 0 ∧ s.2 = (none, 0, 0)) ∨ (s.1 = 1 ∧ s.2.2.1 = 1))) (fun s => 1 - s.1)
        (fun s => [(10, .slice s.2.1 s.2.2.1 s.2.2.2), (63, sl b2 0 1 dc), (64, int 1), (65, int (s.1 : Int))])
        (fun _ => (b, whl nils nw last) :: (b2, row 151 (tm id due x ++ sp2)) :: F) ⟨0, none, 0, 0⟩ ⟨by simp, .inl ⟨rfl, rfl⟩⟩ ⟨rfl, rfl, rfl, rfl, trivial⟩ rfl ?_
      rintro ⟨j, op, om, oc⟩ ⟨hj, hJ⟩
      simp only [] at hj hJ
      show WC _ _ _ _ [(10, .slice op om oc), (63, sl b2 0 1 dc), (64, int 1), (65, int (j : Int))] ((b, whl nils nw last) :: (b2, row 151 (tm id due x ++ sp2)) :: F)
      refine wc_seq ?_
      refine wc_region ?_
      refine wl_pu (y_lss rfl rfl) rfl ?_
      refine wl_nil ?_
      refine at_then ?_
      refine wc_seq ?_
      -- at: cond
      refine wc_condD rfl (fun hj1 => ?_) (fun hj1 => ?_)
      · skip
        have hst : j = 0 ∧ op = none ∧ om = 0 ∧ oc = 0 := by
          rcases hJ with ⟨h1, h2⟩ | hJ
          · simp only [Prod.mk.injEq] at h2; exact ⟨h1, h2.1, h2.2.1, h2.2.2⟩
          · omega
        obtain ⟨rfl, rfl, rfl, rfl⟩ := hst
        refine wc_skip ?_
        refine at_then ?_
        refine wc_seq ?_
        refine wc_block ?_
        refine wc_seq ?_
        refine wc_region ?_
        refine wl_pu (y_ix 3 Try.underlying144 (by kernel_rfl) rfl rfl (by omega)) rfl ?_
        refine wl_rd (y_loadAgg (k := 3) (vs := tm id due x) 1 rfl rfl rfl rfl (by kernel_rfl) (by kernel_rfl)) rfl ?_
        refine wl_do (d_alloc (z := .agg #[int 0, int 0, .int .u32 0]) (zeroB_of (by kernel_rfl))) rfl ?_
        rintro _ _ ⟨b9, rfl, rfl⟩
        first | (refine wl_do0 (d_storeAgg (k := 3) 0 rfl rfl rfl (by decide) rfl rfl (by kernel_rfl)) (fun _ _ hL => ?_); subst hL) | (refine wl_do0 (d_storeAgg (k := 3) 1 rfl rfl rfl (by decide) rfl rfl (by kernel_rfl)) (fun _ _ hL => ?_); subst hL) | (refine wl_do0 (d_storeAgg (k := 3) 2 rfl rfl rfl (by decide) rfl rfl (by kernel_rfl)) (fun _ _ hL => ?_); subst hL) | (refine wl_do0 (d_storeAgg (k := 3) 3 rfl rfl rfl (by decide) rfl rfl (by kernel_rfl)) (fun _ _ hL => ?_); subst hL) | (refine wl_do0 (d_storeAgg (k := 3) 4 rfl rfl rfl (by decide) rfl rfl (by kernel_rfl)) (fun _ _ hL => ?_); subst hL) | (refine wl_do0 (d_storeAgg (k := 3) 5 rfl rfl rfl (by decide) rfl rfl (by kernel_rfl)) (fun _ _ hL => ?_); subst hL)
        refine wl_nil ?_
        refine at_then ?_
        refine wc_region ?_
        refine wl_pu (y_move rfl) rfl ?_
        first | refine wl_pu (y_fieldAddr0 2 Try.underlying151 rfl rfl (by kernel_rfl) rfl) rfl ?_ | refine wl_pu (y_fieldAddr 2 Try.underlying151 rfl rfl (by kernel_rfl) rfl) rfl ?_
        first | refine wl_rd (y_load 0 rfl rfl rfl (by kernel_rfl)) rfl ?_ | refine wl_rd (y_load 1 rfl rfl rfl (by kernel_rfl)) rfl ?_ | refine wl_rd (y_load 2 rfl rfl rfl (by kernel_rfl)) rfl ?_ | refine wl_rd (y_load 3 rfl rfl rfl (by kernel_rfl)) rfl ?_ | refine wl_rd (y_load 4 rfl rfl rfl (by kernel_rfl)) rfl ?_ | refine wl_rd (y_load 5 rfl rfl rfl (by kernel_rfl)) rfl ?_
        -- at: op (buildSlice 67 1 [(0, t71)])
        refine wl_heap ((b9, row 151 (tm id due x)) :: (b, whl nils nw last) :: (b2, row 151 (tm id due x ++ sp2)) :: F) rfl ?_
        refine wl_do (d_buildSlice [.int .u32 x] Try.underlying67 rfl (by kernel_rfl)) rfl ?_
        rintro _ _ ⟨b8, rfl, rfl⟩
        refine wl_do (d_append (sz := 1) (bytes := 4) (fr := []) 0 (.int .u32 0) Try.underlying67 (by kernel_rfl) rfl rfl rfl .nil rfl rfl (news := [.int .u32 x]) rfl rfl rfl (by omega) (by omega)) rfl ?_
        rintro v1 _ ⟨fr1, hS1, rfl⟩
        obtain ⟨p1, cap1, rfl⟩ := slF_form hS1
        refine wl_perm List.perm_append_comm ?_
        refine wl_drop (wl_drop ?_)
        refine wl_perm (L' := fr1 ++ ((b, whl nils nw last) :: (b2, row 151 (tm id due x ++ sp2)) :: F)) List.perm_append_comm ?_
        refine wl_dropL ?_
        refine wl_pu (y_assign rfl) rfl ?_
        refine wl_nil ?_
        refine at_block_normal ?_
        refine at_then ?_
        refine wc_region ?_
        refine wl_pu (y_add rfl rfl (by omega)) rfl ?_
        refine wl_pu (y_move rfl) rfl ?_
        refine wl_nil ?_
        -- at: round
        exact at_again ⟨1, p1, 1, cap1⟩ ⟨by simp, .inr ⟨rfl, rfl⟩⟩ (by simp) ⟨rfl, rfl, rfl, rfl, trivial⟩ rfl
      · skip
        have hom : om = 1 := by
          rcases hJ with hJ | hJ
          · omega
          · exact hJ.2
        subst hom
        refine wc_exit ?_
        refine at_then_exit ?_
        refine at_then_exit ?_
        refine at_block_same ?_
        refine at_then ?_
        refine wc_seq ?_
        refine wc_region ?_
        refine wl_pu (y_move rfl) rfl ?_
        refine wl_pu (y_assign rfl) rfl ?_
        refine wl_nil ?_
        refine at_then ?_
        refine wc_ret ?_
        -- at: ret
        refine at_perm Go.SL.p1 (at_drop ?_)
        refine at_ret1 rfl rfl ?_
        exact .inl ⟨hdue, ⟨_, _, rfl⟩, rfl⟩
    · simp only [] at h1 h2 h3 h4 hS2
      subst h1 h2 h3 h4
      refine wc_exit ?_
      refine at_then_exit ?_
      refine at_then_exit ?_
      refine at_block_same ?_
      refine at_then ?_
      refine wc_seq ?_
      refine wc_region ?_
      refine wl_pu (y_move rfl) rfl ?_
      refine wl_do (d_call (by kernel_rfl) rfl (wsort_spec _ _ _ _ (by omega))) rfl ?_
      rintro _ _ rfl
      refine wl_nil ?_
      refine at_then ?_
      refine wc_seq ?_
      refine wc_region ?_
      refine wl_pu (y_assign rfl) rfl ?_
      refine wl_nil ?_
      refine at_then ?_
      refine wc_seq ?_
      refine wc_seq ?_
      refine wc_region ?_
      refine wl_pu (y_move rfl) rfl ?_
      refine wl_pu (y_lenL Try.underlying144 rfl) rfl ?_
      refine wl_pu (y_move rfl) rfl ?_
      refine wl_nil ?_
      refine at_then ?_
      refine wc_block ?_
      -- at: loop
      refine wc_loop (σ := Unit) (fun _ => True) (fun _ => 0) (fun _ => [(10, .slice none 0 0), (64, int 0), (65, int 0)]) (fun _ => (b, whl (at1 k rp 1 rc) nw last) :: (ex ++ F)) () trivial ⟨rfl, rfl, rfl, trivial⟩ rfl ?_
      intro _ _
      refine wc_seq ?_
      refine wc_region ?_
      refine wl_pu (y_lss rfl rfl) rfl ?_
      refine wl_nil ?_
      refine at_then ?_
      refine wc_seq ?_
      -- at: cond
      refine wc_condD rfl (fun hc => absurd hc ((by omega))) (fun _ => ?_)
      refine wc_exit ?_
      refine at_then_exit ?_
      refine at_then_exit ?_
      refine at_block_same ?_
      refine at_then ?_
      refine wc_seq ?_
      refine wc_region ?_
      refine wl_pu (y_move rfl) rfl ?_
      refine wl_pu (y_assign rfl) rfl ?_
      refine wl_nil ?_
      refine at_then ?_
      refine wc_ret ?_
      -- at: ret
      refine at_ret1 rfl rfl ?_
      exact .inr ⟨hdue, rfl, _, _, _, hS2, rfl⟩
end Go.Proofs.Ytkpndnjhfocheaa
