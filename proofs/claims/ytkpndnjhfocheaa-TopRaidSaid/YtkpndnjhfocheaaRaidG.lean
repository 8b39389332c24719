/- row.others, row.whole; the keys and the values of a map of sectors. -/
import Derived.Test.YtkpndnjhfocheaaRaidF
namespace Go.Proofs.Ytkpndnjhfocheaa
open Go.SL
variable {X : Inhabited SL.Outside}

/-! the keys and the values of a map of sectors -/
theorem mkeys_iter (m b : Nat) (l : List (Int × Value)) : Iter Try.prog 190 [ptr m 0] [(m, row 102 [.map (some b)]), (b, mrow int l)] (fun xs => ∃ ms : List Nat, ms.Perm (List.range l.length) ∧ xs = ms.map fun q => int (keyAt l q)) l.length (fun v => ∃ i, v = int i) := by
  intro y J B0 hJ h0
  show Ctr _ _ [yv y, ptr m 0] ((m, row 102 [.map (some b)]) :: (b, mrow int l) :: B0) _
  refine spec_body Try.func190 Try.ntmps190 rfl rfl ?_
  refine wc_seq ?_
  refine wc_region ?_
  first | refine wl_rd (y_load 0 rfl rfl rfl (by kernel_rfl)) rfl ?_ | refine wl_rd (y_load 1 rfl rfl rfl (by kernel_rfl)) rfl ?_ | refine wl_rd (y_load 2 rfl rfl rfl (by kernel_rfl)) rfl ?_ | refine wl_rd (y_load 3 rfl rfl rfl (by kernel_rfl)) rfl ?_ | refine wl_rd (y_load 4 rfl rfl rfl (by kernel_rfl)) rfl ?_ | refine wl_rd (y_load 5 rfl rfl rfl (by kernel_rfl)) rfl ?_
  refine wl_do (d_range 1 Try.underlying102 rfl rfl) rfl ?_
  rintro _ _ ⟨r, rfl, rfl⟩
  refine wl_nil ?_
  refine at_then ?_
  refine wc_block ?_
  -- at: loop
  refine wc_loop (σ := List Nat × Hp) (fun s => (∃ left, (s.1 ++ left).Perm (List.range l.length)) ∧ J (s.1.map fun q => int (keyAt l q)) s.2) (fun s => l.length - s.1.length) (fun s => [(1, ptr m 0), (0, yv y), (5, ptr r 0)])
    (fun s => (r, itr b l.length s.1) :: (m, row 102 [.map (some b)]) :: (b, mrow int l) :: s.2) ([], B0) ⟨⟨List.range _, List.Perm.refl _⟩, h0⟩ ⟨rfl, rfl, rfl, trivial⟩ rfl ?_
  rintro ⟨seen, B⟩ ⟨⟨left, hp⟩, hB⟩
  simp only [] at hp hB
  show WC _ _ _ _ [(1, ptr m 0), (0, yv y), (5, ptr r 0)] ((r, itr b l.length seen) :: (m, row 102 [.map (some b)]) :: (b, mrow int l) :: B)
  refine wc_seq ?_
  refine wc_region ?_
  refine wl_do (d_next 0 2 rfl rfl rfl) rfl ?_
  rintro _ _ (⟨rfl, rfl, hall⟩ | ⟨q, k, v, hq, hns, rfl, rfl⟩)
  · skip
    refine wl_pu (y_extract rfl rfl) rfl ?_
    refine wl_nil ?_
    refine at_then ?_
    refine wc_seq ?_
    -- at: cond
    refine wc_condF rfl ?_
    refine wc_exit ?_
    refine at_then_exit ?_
    refine at_then_exit ?_
    refine at_block_same ?_
    -- at: end
    exact at_drop (at_end0 rfl ⟨_, B, ⟨seen, seen_all hp hall, rfl⟩, hB, rfl⟩)
  · skip
    obtain ⟨hp', hlt⟩ := seen_step hp (List.getElem?_eq_some_iff.1 hq).1 hns
    refine wl_pu (y_extract rfl rfl) rfl ?_
    refine wl_nil ?_
    refine at_then ?_
    refine wc_seq ?_
    -- at: cond
    refine wc_condT rfl ?_
    refine wc_skip ?_
    refine at_then ?_
    refine wc_block ?_
    refine wc_seq ?_
    refine wc_region ?_
    -- at: op (entry t5)
    refine wl_rd (y_entry 0 2 q hq rfl rfl rfl) rfl ?_
    refine wl_pu (y_extract rfl rfl) rfl ?_
    refine wl_pu (y_assign rfl) rfl ?_
    refine wl_nil ?_
    refine at_then ?_
    refine wc_seq ?_
    refine wc_yield rfl rfl rfl rfl rfl rfl rfl (hJ [(r, itr b l.length (seen ++ [q])), (m, row 102 [.map (some b)]), (b, mrow int l)] _ _ B (by simpa using hlt) ⟨_, rfl⟩ hB) ?_
    rintro _ _ ⟨rfl, B', rfl, hB'⟩
    refine ⟨true, rfl, ?_⟩
    refine at_then ?_
    -- at: cond
    refine wc_condF rfl ?_
    refine wc_skip ?_
    refine at_block_normal ?_
    -- at: round
    refine at_again (seen ++ [q], B') ⟨⟨_, hp'⟩, ?_⟩ (by simp; omega) ⟨rfl, rfl, rfl, trivial⟩ rfl
    rw [List.map_append, List.map_cons, List.map_nil, keyAt_of hq]
    exact hB'

theorem mkeys_spec (F : Hp) (b : Nat) : Ctr Try.prog 144 [.map (some b)] F (fun v L' => ∃ m, v = .func (.func 190) #[] #[ptr m 0] ∧ L' = (m, row 102 [.map (some b)]) :: F) := by
  refine spec_body Try.func144 Try.ntmps144 rfl rfl ?_
  refine wc_seq ?_
  refine wc_region ?_
  refine wl_do (d_box rfl) rfl ?_
  rintro _ _ ⟨bNEW, rfl, rfl⟩
  refine wl_pu (y_assign rfl) rfl ?_
  refine wl_nil ?_
  refine at_then ?_
  refine wc_seq ?_
  refine wc_region ?_
  refine wl_pu (y_makeFunc1 rfl) rfl ?_
  refine wl_pu (y_assign rfl) rfl ?_
  refine wl_nil ?_
  refine at_then ?_
  refine wc_ret ?_
  -- at: ret
  refine at_ret1 rfl rfl ?_
  exact ⟨_, rfl, rfl⟩
theorem mvals_iter (m b : Nat) (l : List (Int × Value)) : Iter Try.prog 192 [ptr m 0] [(m, row 102 [.map (some b)]), (b, mrow int l)] (fun xs => ∃ ms : List Nat, ms.Perm (List.range l.length) ∧ xs = ms.map fun q => valAt l q) l.length (fun v => ∃ (q : Nat) (k : Int), l[q]? = some (k, v)) := by
  intro y J B0 hJ h0
  show Ctr _ _ [yv y, ptr m 0] ((m, row 102 [.map (some b)]) :: (b, mrow int l) :: B0) _
  refine spec_body Try.func192 Try.ntmps192 rfl rfl ?_
  refine wc_seq ?_
  refine wc_region ?_
  first | refine wl_rd (y_load 0 rfl rfl rfl (by kernel_rfl)) rfl ?_ | refine wl_rd (y_load 1 rfl rfl rfl (by kernel_rfl)) rfl ?_ | refine wl_rd (y_load 2 rfl rfl rfl (by kernel_rfl)) rfl ?_ | refine wl_rd (y_load 3 rfl rfl rfl (by kernel_rfl)) rfl ?_ | refine wl_rd (y_load 4 rfl rfl rfl (by kernel_rfl)) rfl ?_ | refine wl_rd (y_load 5 rfl rfl rfl (by kernel_rfl)) rfl ?_
  refine wl_do (d_range 1 Try.underlying102 rfl rfl) rfl ?_
  rintro _ _ ⟨r, rfl, rfl⟩
  refine wl_nil ?_
  refine at_then ?_
  refine wc_block ?_
  -- at: loop
  refine wc_loop (σ := List Nat × Hp) (fun s => (∃ left, (s.1 ++ left).Perm (List.range l.length)) ∧ J (s.1.map fun q => valAt l q) s.2) (fun s => l.length - s.1.length) (fun s => [(1, ptr m 0), (0, yv y), (6, ptr r 0)])
    (fun s => (r, itr b l.length s.1) :: (m, row 102 [.map (some b)]) :: (b, mrow int l) :: s.2) ([], B0) ⟨⟨List.range _, List.Perm.refl _⟩, h0⟩ ⟨rfl, rfl, rfl, trivial⟩ rfl ?_
  rintro ⟨seen, B⟩ ⟨⟨left, hp⟩, hB⟩
  simp only [] at hp hB
  show WC _ _ _ _ [(1, ptr m 0), (0, yv y), (6, ptr r 0)] ((r, itr b l.length seen) :: (m, row 102 [.map (some b)]) :: (b, mrow int l) :: B)
  refine wc_seq ?_
  refine wc_region ?_
  refine wl_do (d_next 0 2 rfl rfl rfl) rfl ?_
  rintro _ _ (⟨rfl, rfl, hall⟩ | ⟨q, k, v, hq, hns, rfl, rfl⟩)
  · skip
    refine wl_pu (y_extract rfl rfl) rfl ?_
    refine wl_nil ?_
    refine at_then ?_
    refine wc_seq ?_
    -- at: cond
    refine wc_condF rfl ?_
    refine wc_exit ?_
    refine at_then_exit ?_
    refine at_then_exit ?_
    refine at_block_same ?_
    -- at: end
    exact at_drop (at_end0 rfl ⟨_, B, ⟨seen, seen_all hp hall, rfl⟩, hB, rfl⟩)
  · skip
    obtain ⟨hp', hlt⟩ := seen_step hp (List.getElem?_eq_some_iff.1 hq).1 hns
    refine wl_pu (y_extract rfl rfl) rfl ?_
    refine wl_nil ?_
    refine at_then ?_
    refine wc_seq ?_
    -- at: cond
    refine wc_condT rfl ?_
    refine wc_skip ?_
    refine at_then ?_
    refine wc_block ?_
    refine wc_seq ?_
    refine wc_region ?_
    -- at: op (entry t6)
    refine wl_rd (y_entry 0 2 q hq rfl rfl rfl) rfl ?_
    refine wl_pu (y_extract rfl rfl) rfl ?_
    refine wl_pu (y_assign rfl) rfl ?_
    refine wl_nil ?_
    refine at_then ?_
    refine wc_seq ?_
    refine wc_yield rfl rfl rfl rfl rfl rfl rfl (hJ [(r, itr b l.length (seen ++ [q])), (m, row 102 [.map (some b)]), (b, mrow int l)] _ _ B (by simpa using hlt) ⟨_, _, hq⟩ hB) ?_
    rintro _ _ ⟨rfl, B', rfl, hB'⟩
    refine ⟨true, rfl, ?_⟩
    refine at_then ?_
    -- at: cond
    refine wc_condF rfl ?_
    refine wc_skip ?_
    refine at_block_normal ?_
    -- at: round
    refine at_again (seen ++ [q], B') ⟨⟨_, hp'⟩, ?_⟩ (by simp; omega) ⟨rfl, rfl, rfl, trivial⟩ rfl
    rw [List.map_append, List.map_cons, List.map_nil, valAt_of hq]
    exact hB'

theorem mvals_spec (F : Hp) (b : Nat) : Ctr Try.prog 146 [.map (some b)] F (fun v L' => ∃ m, v = .func (.func 192) #[] #[ptr m 0] ∧ L' = (m, row 102 [.map (some b)]) :: F) := by
  refine spec_body Try.func146 Try.ntmps146 rfl rfl ?_
  refine wc_seq ?_
  refine wc_region ?_
  refine wl_do (d_box rfl) rfl ?_
  rintro _ _ ⟨bNEW, rfl, rfl⟩
  refine wl_pu (y_assign rfl) rfl ?_
  refine wl_nil ?_
  refine at_then ?_
  refine wc_seq ?_
  refine wc_region ?_
  refine wl_pu (y_makeFunc1 rfl) rfl ?_
  refine wl_pu (y_assign rfl) rfl ?_
  refine wl_nil ?_
  refine at_then ?_
  refine wc_ret ?_
  -- at: ret
  refine at_ret1 rfl rfl ?_
  exact ⟨_, rfl, rfl⟩
theorem builtv9 {v : Value} (h : v.oneCell' = true) : builtS Try.prog 9 1 [(0, v)] = some ⟨[v]⟩ := by
  cases v <;> first | (cases h; done) | kernel_rfl
theorem appendS_spec (F A : Hp) {gf : FuncId} {lb : List Value} {S : List Value → Prop} {N : Nat} {Ok : Value → Prop} (he : enters Try.prog gf = true) (hI : Iter Try.prog gf lb A S N Ok) (hN : N ≤ 1000000) (hOk : ∀ v, Ok v → v.oneCell' = true) :
    Ctr Try.prog 191 [.slice none 0 0, .func (.func gf) #[] ⟨lb⟩] (A ++ F) (fun v L' => ∃ xs fr, S xs ∧ SlF 9 1 v xs.length xs fr ∧ L' = fr ++ (A ++ F)) := by
  refine spec_marks Try.func191 Try.ntmps191 rfl rfl ?_
  refine ci_seq (ci_region (l := [_, _]) (li_do (d_box rfl) rfl rfl ?_))
  rintro _ _ ⟨bs, rfl, rfl⟩
  refine li_pu (y_assign rfl) rfl rfl (li_nil (ai_then (ci_seq (ci_seq (ci_region (l := [_]) (li_pu (y_move rfl) rfl rfl (li_nil (ai_then (ci_block ?_)))))))))
  refine ci_perm (L' := A ++ ((bs, row 36 [.slice none 0 0]) :: F)) perm_mid.symm ?_
  refine ci_rangeFunc he rfl rfl rfl hI (fun xs B => ∃ v fr, SlF 9 1 v xs.length xs fr ∧ B = fr ++ (bs, row 36 [v]) :: F) ⟨_, [], .nil, rfl⟩ ?_ ?_
  · rintro l C pre v B hlt hv ⟨s, fr, hS, rfl⟩
    refine ci_block (ci_perm (L' := (bs, row 36 [s]) :: (fr ++ (C ++ F))) (mid_perm.trans perm_mid) ?_)
    refine ci_region (l := [_, _, _, _, _]) (li_rd (y_load 0 rfl rfl rfl (by kernel_rfl)) rfl rfl (li_pu (y_move rfl) rfl rfl (li_do (d_buildSlice [v] Try.underlying36 rfl (builtv9 (hOk v hv))) rfl rfl ?_)))
    rintro _ _ ⟨b1, rfl, rfl⟩
    refine li_perm (L' := fr ++ ((b1, row 9 [v]) :: (bs, row 36 [s]) :: (C ++ F))) ((List.Perm.cons _ perm_mid.symm).trans perm_mid.symm) ?_
    refine li_do (d_append (sz := 1) (bytes := 16) (L0 := (b1, row 9 [v]) :: (bs, row 36 [s]) :: (C ++ F)) 0 (Go.SL.S []) Try.underlying36 (by kernel_rfl) rfl rfl rfl hS rfl rfl (news := [v]) rfl rfl (by simp [allOne, hOk v hv]) (by omega) (by omega)) rfl rfl ?_
    rintro s' _ ⟨fr', hS', rfl⟩
    refine li_perm (L' := (bs, row 36 [s]) :: (b1, row 9 [v]) :: (fr' ++ (C ++ F))) ?_ ?_
    · exact (perm_mid.trans (List.Perm.cons _ perm_mid)).trans Go.SL.p1
    refine li_do0 (d_store 0 rfl rfl rfl rfl (slF_one hS') (by kernel_rfl)) rfl ?_
    rintro _ _ rfl
    refine li_nil (ai_block ?_)
    intro a w hF hO
    refine ⟨rfl, _, ⟨s', fr', by simpa using hS', rfl⟩, ?_⟩
    have hO' : Own w ((b1, row 9 [v]) :: (bs, row 36 [s']) :: (fr' ++ (C ++ F))) := hO.perm Go.SL.p1
    exact hO'.drop.perm (perm_mid.symm.trans mid_perm.symm)
  · rintro D xs B hS ⟨v, fr, hF, rfl⟩
    refine ai_block (ai_then (ci_seq ?_))
    refine ci_perm (L' := (bs, row 36 [v]) :: (D, .deferred (some [])) :: (fr ++ (A ++ F))) ?_ ?_
    · exact (List.Perm.cons _ (mid_perm.trans perm_mid)).trans Go.SL.p1
    refine ci_region (l := [_, _]) (li_rd (y_load 0 rfl rfl rfl (by kernel_rfl)) rfl rfl (li_pu (y_assign rfl) rfl rfl (li_nil (ai_then (ci_ret ?_)))))
    refine ai_drop ?_
    exact ai_retM (R := fun v L' => ∃ xs fr, S xs ∧ SlF 9 1 v xs.length xs fr ∧ L' = fr ++ (A ++ F)) rfl rfl ⟨xs, fr, hS, hF, rfl⟩
theorem collectS_spec (F A : Hp) {gf : FuncId} {lb : List Value} {S : List Value → Prop} {N : Nat} {Ok : Value → Prop} (he : enters Try.prog gf = true) (hI : Iter Try.prog gf lb A S N Ok) (hN : N ≤ 1000000) (hOk : ∀ v, Ok v → v.oneCell' = true) :
    Ctr Try.prog 145 [.func (.func gf) #[] ⟨lb⟩] (A ++ F) (fun v L' => ∃ xs fr, S xs ∧ SlF 9 1 v xs.length xs fr ∧ L' = fr ++ (A ++ F)) := by
  refine spec_body Try.func145 Try.ntmps145 rfl rfl ?_
  refine wc_seq ?_
  refine wc_region ?_
  refine wl_pu (y_assign rfl) rfl ?_
  refine wl_nil ?_
  refine at_then ?_
  refine wc_seq ?_
  refine wc_region ?_
  refine wl_pu (y_move rfl) rfl ?_
  -- at: op (call {callee:(value (func 191)), args:[c:(slice none 0 0), t3], argTypes:[36, 246]})
  refine wl_do (d_call (by kernel_rfl) rfl (appendS_spec F A he hI hN hOk)) rfl ?_
  rintro v _ ⟨xs, fr, hS, hF, rfl⟩
  refine wl_pu (y_assign rfl) rfl ?_
  refine wl_nil ?_
  refine at_then ?_
  refine wc_ret ?_
  -- at: ret
  refine at_ret1 rfl rfl ?_
  exact ⟨xs, fr, hS, hF, rfl⟩


/-! slices.Contains -/
theorem cont_spec (F : Hp) {v : Value} {xs : List Int} {fr : Hp} (hS : SlF 3 1 v xs.length (xs.map int) fr) (hn : xs.length ≤ 1000000) (x : Int) (hx : x ∈ xs) :
    Ctr Try.prog 138 [v, int x] (fr ++ F) (fun u L' => u = .bool true ∧ L' = fr ++ F) := by
  have h0 : 0 < xs.length := List.length_pos_of_mem hx
  obtain ⟨b, cap, sp, rfl, rfl, hcap, hl⟩ := slF_cons hS h0
  have hix : Ctr Try.prog 184 [sl b 0 xs.length cap, int x] ((b, row 3 (xs.map int ++ sp)) :: F) (fun u L' => (∃ q : Nat, u = int (q : Int)) ∧ L' = (b, row 3 (xs.map int ++ sp)) :: F) := by
    refine spec_body Try.func184 Try.ntmps184 rfl rfl ?_
    refine wc_seq ?_
    refine wc_region ?_
    refine wl_pu (y_assign rfl) rfl ?_
    refine wl_nil ?_
    refine at_then ?_
    refine wc_seq ?_
    refine wc_seq ?_
    refine wc_region ?_
    refine wl_pu (y_move rfl) rfl ?_
    refine wl_pu (y_lenL Try.underlying74 rfl) rfl ?_
    refine wl_pu (y_move rfl) rfl ?_
    refine wl_nil ?_
    refine at_then ?_
    refine wc_block ?_
    -- at: loop
    refine wc_loop (σ := Nat) (fun i => i ≤ xs.length ∧ x ∈ xs.drop i) (fun i => xs.length - i) (fun i => [(0, sl b 0 xs.length cap), (1, int x), (7, int (xs.length : Int)), (8, int (i : Int))]) (fun i => (b, row 3 (xs.map int ++ sp)) :: F) 0 ⟨Nat.zero_le _, hx⟩ ⟨rfl, rfl, rfl, rfl, trivial⟩ rfl ?_
    rintro i ⟨hi, hd⟩
    have hi' : i < xs.length := by
      rcases Nat.lt_or_ge i xs.length with h | h
      · exact h
      · rw [List.drop_of_length_le h] at hd; simp at hd
    show WC _ _ _ _ [(0, sl b 0 xs.length cap), (1, int x), (7, int (xs.length : Int)), (8, int (i : Int))] _
    refine wc_seq ?_
    refine wc_region ?_
    refine wl_pu (y_lss rfl rfl) rfl ?_
    refine wl_nil ?_
    refine at_then ?_
    refine wc_seq ?_
    -- at: cond
    refine wc_condD rfl (fun _ => ?_) (fun hc => absurd ((by omega)) hc)
    refine wc_skip ?_
    refine at_then ?_
    refine wc_seq ?_
    refine wc_block ?_
    refine wc_seq ?_
    refine wc_region ?_
    refine wl_pu (y_move rfl) rfl ?_
    refine wl_pu (y_assign rfl) rfl ?_
    refine wl_nil ?_
    refine at_then ?_
    refine wc_seq ?_
    refine wc_region ?_
    refine wl_pu (y_move rfl) rfl ?_
    refine wl_pu (y_move rfl) rfl ?_
    refine wl_pu (y_move rfl) rfl ?_
    first | refine wl_pu (y_ix1 Try.underlying74 (by kernel_rfl) rfl rfl (by omega)) rfl ?_ | refine wl_pu (y_ix 1 Try.underlying74 (by kernel_rfl) rfl rfl (by omega)) rfl ?_
    refine wl_rd (y_load 0 rfl rfl (v := int xs[i]) (by rw [Int.toNat_natCast]; exact ints_at hi') (by kernel_rfl)) rfl ?_
    refine wl_pu (y_eql rfl rfl) rfl ?_
    refine wl_nil ?_
    refine at_then ?_
    -- at: cond
    refine wc_condD rfl (fun he => ?_) (fun he => ?_)
    · skip
      refine wc_seq ?_
      refine wc_region ?_
      refine wl_pu (y_move rfl) rfl ?_
      refine wl_pu (y_assign rfl) rfl ?_
      refine wl_nil ?_
      refine at_then ?_
      refine wc_ret ?_
      refine at_block_ret ?_
      refine at_then_ret ?_
      refine at_then_ret ?_
      refine at_block_ret ?_
      refine at_then_ret ?_
      -- at: ret
      refine at_ret1 rfl rfl ?_
      exact ⟨⟨i, rfl⟩, rfl⟩
    · skip
      refine wc_skip ?_
      refine at_block_normal ?_
      refine at_then ?_
      refine wc_region ?_
      refine wl_pu (y_add rfl rfl (by omega)) rfl ?_
      refine wl_pu (y_move rfl) rfl ?_
      refine wl_nil ?_
      -- at: round
      refine at_again (i + 1) ⟨hi', ?_⟩ (by omega) ⟨rfl, rfl, rfl, rfl, trivial⟩ rfl
      rw [List.drop_eq_getElem_cons hi'] at hd
      rcases List.mem_cons.1 hd with hd | hd
      · exact absurd hd he
      · exact hd
  refine spec_body Try.func138 Try.ntmps138 rfl rfl ?_
  refine wc_heap ((b, row 3 (xs.map int ++ sp)) :: F) rfl ?_
  refine wc_seq ?_
  refine wc_region ?_
  refine wl_pu (y_assign rfl) rfl ?_
  refine wl_nil ?_
  refine at_then ?_
  refine wc_seq ?_
  refine wc_region ?_
  refine wl_pu (y_move rfl) rfl ?_
  refine wl_pu (y_move rfl) rfl ?_
  -- at: op (call {callee:(value (func 184)), args:[t5, t6], argTypes:[74, 3]})
  refine wl_do (d_call (by kernel_rfl) rfl (hix)) rfl ?_
  rintro _ L9 ⟨⟨q, rfl⟩, hL9⟩
  rw [hL9]
  clear hL9
  refine wl_pu (y_geq rfl rfl) rfl ?_
  refine wl_pu (y_assign rfl) rfl ?_
  refine wl_nil ?_
  refine at_then ?_
  refine wc_ret ?_
  -- at: ret
  refine at_ret1 rfl rfl ?_
  exact ⟨by congr 1, rfl⟩

/-! row.others, row.whole -/
theorem oth1_spec (F : Hp) (m b : Nat) (l : List (Int × Value)) (hl : MOk i64ok l) (x : Int) (hx : i64ok x) :
    Ctr Try.prog 186 [int x, ptr m 0] ([(m, row 102 [.map (some b)]), (b, mrow int l)] ++ F) (fun u L' => u = .bool (mget x l).isSome ∧ L' = [(m, row 102 [.map (some b)]), (b, mrow int l)] ++ F) := by
  refine spec_body Try.func186 Try.ntmps186 rfl rfl ?_
  refine wc_heap ((m, row 102 [.map (some b)]) :: (b, mrow int l) :: F) rfl ?_
  refine wc_seq ?_
  refine wc_region ?_
  refine wl_pu (y_assign rfl) rfl ?_
  refine wl_nil ?_
  refine at_then ?_
  refine wc_seq ?_
  refine wc_region ?_
  first | refine wl_rd (y_load 0 rfl rfl rfl (by kernel_rfl)) rfl ?_ | refine wl_rd (y_load 1 rfl rfl rfl (by kernel_rfl)) rfl ?_ | refine wl_rd (y_load 2 rfl rfl rfl (by kernel_rfl)) rfl ?_ | refine wl_rd (y_load 3 rfl rfl rfl (by kernel_rfl)) rfl ?_ | refine wl_rd (y_load 4 rfl rfl rfl (by kernel_rfl)) rfl ?_ | refine wl_rd (y_load 5 rfl rfl rfl (by kernel_rfl)) rfl ?_
  refine wl_pu (y_move rfl) rfl ?_
  -- at: op (lookup 102 t7 t8 true)
  refine wl_rd (y_lookOk (u := S []) (k := x) (l := l) 1 rkey Try.underlying102 (zeroB_of (by kernel_rfl)) hx hl rfl rfl rfl) rfl ?_
  refine wl_pu (y_move rfl) rfl ?_
  refine wl_pu (y_extract rfl rfl) rfl ?_
  refine wl_pu (y_extract rfl rfl) rfl ?_
  refine wl_pu (y_assign rfl) rfl ?_
  refine wl_pu (y_assign rfl) rfl ?_
  refine wl_nil ?_
  refine at_then ?_
  refine wc_seq ?_
  refine wc_region ?_
  refine wl_pu (y_move rfl) rfl ?_
  refine wl_pu (y_assign rfl) rfl ?_
  refine wl_nil ?_
  refine at_then ?_
  refine wc_ret ?_
  -- at: ret
  refine at_ret1 rfl rfl ?_
  exact ⟨rfl, rfl⟩
theorem dats_in {lv rw : Int} {n : Nat} (h : GOk lv n rw) (r : Int) : ∀ x ∈ dats n r, 0 ≤ x ∧ x < n := fun x hx => by
  obtain ⟨d, _, rfl⟩ := List.mem_map.1 hx
  exact dat_lo h r d
theorem others_spec {lv rw : Int} {n : Nat} (F : Hp) (h : GOk lv n rw) (r : Int) (hr : 0 ≤ r ∧ r < rw) (b : Nat) (l : List (Int × Value)) (hl : MOk i64ok l) :
    Ctr Try.prog 140 [.agg ⟨geo lv n rw⟩, int r, .map (some b)] ((b, mrow int l) :: F) (fun u L' => ∃ (ys : List Int) (fr : Hp), ys.Perm ((dats n r).filter fun m => !(mget m l).isSome) ∧ SlF 3 1 u ys.length (ys.map int) fr ∧ L' = fr ++ ((b, mrow int l) :: F)) := by
  have hn := h.mem3
  have hdl := dats_len n r
  refine spec_body Try.func140 Try.ntmps140 rfl rfl ?_
  refine wc_seq ?_
  refine wc_region ?_
  refine wl_do (d_box rfl) rfl ?_
  rintro _ _ ⟨bNEW, rfl, rfl⟩
  refine wl_do (d_box rfl) rfl ?_
  rintro _ _ ⟨bNEW2, rfl, rfl⟩
  refine wl_pu (y_assign rfl) rfl ?_
  refine wl_nil ?_
  refine at_then ?_
  refine wc_seq ?_
  refine wc_region ?_
  refine wl_heap ((bNEW2, row 102 [.map (some b)]) :: (bNEW, row 72 (geo lv n rw)) :: (b, mrow int l) :: F) rfl ?_
  refine wl_rd (y_loadAgg (k := 3) (vs := geo lv n rw) 1 rfl rfl rfl rfl (by kernel_rfl) (by kernel_rfl)) rfl ?_
  refine wl_pu (y_move rfl) rfl ?_
  -- at: op (call {callee:(value (func 93)), args:[t7, t8], argTypes:[72, 3]})
  refine wl_do (d_call (by kernel_rfl) rfl (data_spec _ h r hr)) rfl ?_
  rintro u0 _ ⟨f0, hS0, rfl⟩
  rw [← hdl] at hS0
  refine wl_pu (y_makeFunc1 rfl) rfl ?_
  -- at: op (call {callee:(value (func 185)), args:[t9, t10], argTypes:[74, 65]})
  refine wl_perm (L' := f0 ++ ([(bNEW2, row 102 [.map (some b)]), (b, mrow int l)] ++ ((bNEW, row 72 (geo lv n rw)) :: F))) (List.Perm.append_left f0 (List.Perm.cons _ Go.SL.p1)) ?_
  refine wl_do (d_call (by kernel_rfl) rfl (del_spec ((bNEW, row 72 (geo lv n rw)) :: F) [(bNEW2, row 102 [.map (some b)]), (b, mrow int l)] (fun x => (mget x l).isSome) (by kernel_rfl) (fun x hx F' => oth1_spec F' bNEW2 b l hl x (by have := dats_in h r x hx; exact ⟨by omega, by omega⟩)) hS0 (by omega) (by omega))) rfl ?_
  rintro u1 _ ⟨f1, hS1, rfl⟩
  refine wl_do (d_call (by kernel_rfl) rfl (vals_spec _ u1 (slF_one hS1))) rfl ?_
  rintro _ _ ⟨m2, rfl, rfl⟩
  refine wl_do (d_call (by kernel_rfl) rfl (sortv_spec _ m2 hS1 (Nat.le_trans (List.length_filter_le _ _) (by omega)))) rfl ?_
  rintro u2 _ ⟨ys, f2, hp, hS2, rfl⟩
  refine wl_pu (y_assign rfl) rfl ?_
  refine wl_nil ?_
  refine at_then ?_
  refine wc_ret ?_
  -- at: ret
  refine at_perm (L' := (m2, row 74 [u1]) :: (f1 ++ ((bNEW2, row 102 [.map (some b)]) :: (bNEW, row 72 (geo lv n rw)) :: (f2 ++ ((b, mrow int l) :: F))))) ?_ ?_
  · refine perm_mid.trans (List.Perm.cons _ ?_)
    refine (List.perm_append_comm_assoc _ _ _).trans (List.Perm.append_left f1 ?_)
    refine (List.Perm.append_left f2 (List.Perm.cons _ Go.SL.p1)).trans ?_
    exact perm_mid.trans (List.Perm.cons _ perm_mid)
  refine at_drop (at_dropL (at_drop (at_drop ?_)))
  refine at_ret1 rfl rfl ?_
  exact ⟨ys, f2, hp, hS2, rfl⟩

theorem whole1_spec (F : Hp) (m : Nat) (f : Int → Bool) (x : Int) (hx : 0 ≤ x ∧ x < 4) :
    Ctr Try.prog 187 [int x, ptr m 0] ([(m, row 84 (ins f))] ++ F) (fun u L' => u = .bool (!f x) ∧ L' = [(m, row 84 (ins f))] ++ F) := by
  refine spec_body Try.func187 Try.ntmps187 rfl rfl ?_
  refine wc_heap ((m, row 84 (ins f)) :: F) rfl ?_
  refine wc_seq ?_
  refine wc_region ?_
  refine wl_pu (y_assign rfl) rfl ?_
  refine wl_nil ?_
  refine at_then ?_
  refine wc_seq ?_
  refine wc_region ?_
  refine wl_pu (y_move rfl) rfl ?_
  refine wl_pu (y_ixA 1 Try.underlying84 (by kernel_rfl) rfl rfl (by omega)) rfl ?_
  refine wl_rd (y_load 0 rfl rfl (v := .bool (f x)) (ins_nth f hx) (by kernel_rfl)) rfl ?_
  first | refine wl_pu (y_notT rfl) rfl ?_ | refine wl_pu (y_notF rfl) rfl ?_ | refine wl_pu (y_not rfl) rfl ?_ | refine wl_pu (y_notB rfl) rfl ?_
  refine wl_pu (y_assign rfl) rfl ?_
  refine wl_nil ?_
  refine at_then ?_
  refine wc_ret ?_
  -- at: ret
  refine at_ret1 rfl rfl ?_
  exact ⟨rfl, rfl⟩
theorem whole_spec (F : Hp) (f : Int → Bool) {v : Value} {xs : List Int} {fr : Hp} (hS : SlF 3 1 v xs.length (xs.map int) fr) (hn : xs.length ≤ 1000000) (hx : ∀ x ∈ xs, 0 ≤ x ∧ x < 4) :
    Ctr Try.prog 141 [.agg ⟨ins f⟩, v] (fr ++ F) (fun u L' => u = .bool (xs.all f) ∧ L' = fr ++ F) := by
  refine spec_body Try.func141 Try.ntmps141 rfl rfl ?_
  refine wc_seq ?_
  refine wc_region ?_
  refine wl_do (d_box rfl) rfl ?_
  rintro _ _ ⟨bNEW, rfl, rfl⟩
  refine wl_pu (y_assign rfl) rfl ?_
  refine wl_nil ?_
  refine at_then ?_
  refine wc_seq ?_
  refine wc_region ?_
  refine wl_pu (y_move rfl) rfl ?_
  refine wl_pu (y_makeFunc1 rfl) rfl ?_
  -- at: op (call {callee:(value (func 128)), args:[t5, t6], argTypes:[74, 65]})
  refine wl_heap ((bNEW, row 84 (ins f)) :: (fr ++ F)) rfl ?_
  refine wl_perm (L' := fr ++ ([(bNEW, row 84 (ins f))] ++ F)) perm_mid.symm ?_
  refine wl_do (d_call (by kernel_rfl) rfl (contf_spec F [(bNEW, row 84 (ins f))] (fun x => !f x) (by kernel_rfl) (fun x hx' F' => whole1_spec F' bNEW f x (hx x hx')) hS hn)) rfl ?_
  rintro _ L9 ⟨rfl, hL9⟩
  rw [hL9]
  clear hL9
  refine wl_perm (L' := (bNEW, row 84 (ins f)) :: (fr ++ F)) perm_mid ?_
  first | refine wl_pu (y_notT rfl) rfl ?_ | refine wl_pu (y_notF rfl) rfl ?_ | refine wl_pu (y_not rfl) rfl ?_ | refine wl_pu (y_notB rfl) rfl ?_
  refine wl_pu (y_assign rfl) rfl ?_
  refine wl_nil ?_
  refine at_then ?_
  refine wc_ret ?_
  -- at: ret
  refine at_drop ?_
  refine at_ret1 rfl rfl ?_
  exact ⟨by rw [List.not_any_eq_all_not]; simp, rfl⟩
end Go.Proofs.Ytkpndnjhfocheaa
