/- The keys of a map as a sequence, collected and sorted. -/
import Derived.Test.YtkpndnjhfocheaaSeqsB
namespace Go.Proofs.Ytkpndnjhfocheaa
open Go.SL
variable {X : Inhabited SL.Outside}

/-- The m-th key, or value. -/
def keyAt (l : List (Int × Value)) (m : Nat) : Int := (l[m]?.map Prod.fst).getD 0
def valAt (l : List (Int × Value)) (m : Nat) : Value := (l[m]?.map Prod.snd).getD undef
theorem keyAt_of {l : List (Int × Value)} {m : Nat} {k : Int} {v : Value} (h : l[m]? = some (k, v)) : keyAt l m = k := by simp [keyAt, h]
theorem valAt_of {l : List (Int × Value)} {m : Nat} {k : Int} {v : Value} (h : l[m]? = some (k, v)) : valAt l m = v := by simp [valAt, h]

theorem seen_step {seen left : List Nat} {n m : Nat} (h : (seen ++ left).Perm (List.range n)) (hm : m < n) (hs : m ∉ seen) : (seen ++ [m] ++ left.erase m).Perm (List.range n) ∧ seen.length < n := by
  have hml : m ∈ left := by
    have : m ∈ seen ++ left := h.mem_iff.2 (by simpa using hm)
    rcases List.mem_append.1 this with h' | h'
    · exact absurd h' hs
    · exact h'
  have hp := List.perm_cons_erase hml
  refine ⟨?_, ?_⟩
  · refine List.Perm.trans ?_ h
    rw [List.append_assoc]
    exact List.Perm.append_left seen hp.symm
  · have h1 := h.length_eq
    have h2 := List.length_pos_of_mem hml
    simp at h1
    omega
theorem seen_all {seen left : List Nat} {n : Nat} (h : (seen ++ left).Perm (List.range n)) (ha : ∀ m, m < n → m ∈ seen) : seen.Perm (List.range n) := by
  have hl : left = [] := by
    apply List.eq_nil_iff_forall_not_mem.2
    intro m hm
    have hn : (seen ++ left).Nodup := h.nodup_iff.2 List.nodup_range
    have hmn : m < n := by have : m ∈ List.range n := h.mem_iff.1 (by simp [hm]); simpa using this
    exact (List.nodup_append.1 hn).2.2 m (ha m hmn) m hm rfl
  subst hl
  simpa using h

theorem keys_iter (m b : Nat) (l : List (Int × Value)) : Iter Try.prog 172 [ptr m 0] [(m, row 177 [.map (some b)]), (b, mrow int l)] (fun xs => ∃ ms : List Nat, ms.Perm (List.range l.length) ∧ xs = ms.map fun q => int (keyAt l q)) l.length (fun v => ∃ i, v = int i) := by
  intro y J B0 hJ h0
  show Ctr _ _ [yv y, ptr m 0] ((m, row 177 [.map (some b)]) :: (b, mrow int l) :: B0) _
  refine spec_body Try.func172 Try.ntmps172 rfl rfl ?_
  refine wc_seq ?_
  refine wc_region ?_
  first | refine wl_rd (y_load 0 rfl rfl rfl (by kernel_rfl)) rfl ?_ | refine wl_rd (y_load 1 rfl rfl rfl (by kernel_rfl)) rfl ?_ | refine wl_rd (y_load 2 rfl rfl rfl (by kernel_rfl)) rfl ?_ | refine wl_rd (y_load 3 rfl rfl rfl (by kernel_rfl)) rfl ?_ | refine wl_rd (y_load 4 rfl rfl rfl (by kernel_rfl)) rfl ?_ | refine wl_rd (y_load 5 rfl rfl rfl (by kernel_rfl)) rfl ?_
  refine wl_do (d_range 1 Try.underlying177 rfl rfl) rfl ?_
  rintro _ _ ⟨r, rfl, rfl⟩
  refine wl_nil ?_
  refine at_then ?_
  refine wc_block ?_
  -- at: loop
  refine wc_loop (σ := List Nat × Hp) (fun s => (∃ left, (s.1 ++ left).Perm (List.range l.length)) ∧ J (s.1.map fun q => int (keyAt l q)) s.2) (fun s => l.length - s.1.length) (fun s => [(1, ptr m 0), (0, yv y), (5, ptr r 0)])
    (fun s => (r, itr b l.length s.1) :: (m, row 177 [.map (some b)]) :: (b, mrow int l) :: s.2) ([], B0) ⟨⟨List.range _, List.Perm.refl _⟩, h0⟩ ⟨rfl, rfl, rfl, trivial⟩ rfl ?_
  rintro ⟨seen, B⟩ ⟨⟨left, hp⟩, hB⟩
  simp only [] at hp hB
  show WC _ _ _ _ [(1, ptr m 0), (0, yv y), (5, ptr r 0)] ((r, itr b l.length seen) :: (m, row 177 [.map (some b)]) :: (b, mrow int l) :: B)
  refine wc_seq ?_
  refine wc_region ?_
  refine wl_do (d_next 0 2 rfl rfl rfl) rfl ?_
  rintro _ _ (⟨rfl, rfl, hall⟩ | ⟨q, k, v, hq, hns, rfl, rfl⟩)
  · skip
    refine wl_pu (y_extract rfl rfl) rfl ?_
    refine wl_nil ?_
    refine at_then ?_
    refine wc_seq ?_
    -- at: cond
    refine wc_condF rfl ?_
    refine wc_exit ?_
    refine at_then_exit ?_
    refine at_then_exit ?_
    refine at_block_same ?_
    -- at: end
    exact at_drop (at_end0 rfl ⟨_, B, ⟨seen, seen_all hp hall, rfl⟩, hB, rfl⟩)
  · skip
    obtain ⟨hp', hlt⟩ := seen_step hp (List.getElem?_eq_some_iff.1 hq).1 hns
    refine wl_pu (y_extract rfl rfl) rfl ?_
    refine wl_nil ?_
    refine at_then ?_
    refine wc_seq ?_
    -- at: cond
    refine wc_condT rfl ?_
    refine wc_skip ?_
    refine at_then ?_
    refine wc_block ?_
    refine wc_seq ?_
    refine wc_region ?_
    -- at: op (entry t5)
    refine wl_rd (y_entry 0 2 q hq rfl rfl rfl) rfl ?_
    refine wl_pu (y_extract rfl rfl) rfl ?_
    refine wl_pu (y_assign rfl) rfl ?_
    refine wl_nil ?_
    refine at_then ?_
    refine wc_seq ?_
    refine wc_yield rfl rfl rfl rfl rfl rfl rfl (hJ [(r, itr b l.length (seen ++ [q])), (m, row 177 [.map (some b)]), (b, mrow int l)] _ _ B (by simpa using hlt) ⟨_, rfl⟩ hB) ?_
    rintro _ _ ⟨rfl, B', rfl, hB'⟩
    refine ⟨true, rfl, ?_⟩
    refine at_then ?_
    -- at: cond
    refine wc_condF rfl ?_
    refine wc_skip ?_
    refine at_block_normal ?_
    -- at: round
    refine at_again (seen ++ [q], B') ⟨⟨_, hp'⟩, ?_⟩ (by simp; omega) ⟨rfl, rfl, rfl, trivial⟩ rfl
    rw [List.map_append, List.map_cons, List.map_nil, keyAt_of hq]
    exact hB'

theorem keys_spec (F : Hp) (b : Nat) : Ctr Try.prog 131 [.map (some b)] F (fun v L' => ∃ m, v = .func (.func 172) #[] #[ptr m 0] ∧ L' = (m, row 177 [.map (some b)]) :: F) := by
  refine spec_body Try.func131 Try.ntmps131 rfl rfl ?_
  refine wc_seq ?_
  refine wc_region ?_
  refine wl_do (d_box rfl) rfl ?_
  rintro _ _ ⟨bNEW, rfl, rfl⟩
  refine wl_pu (y_assign rfl) rfl ?_
  refine wl_nil ?_
  refine at_then ?_
  refine wc_seq ?_
  refine wc_region ?_
  refine wl_pu (y_makeFunc1 rfl) rfl ?_
  refine wl_pu (y_assign rfl) rfl ?_
  refine wl_nil ?_
  refine at_then ?_
  refine wc_ret ?_
  -- at: ret
  refine at_ret1 rfl rfl ?_
  exact ⟨_, rfl, rfl⟩

theorem collectI_spec (F A : Hp) {gf : FuncId} {lb : List Value} {S : List Value → Prop} {N : Nat} {Ok : Value → Prop} (he : enters Try.prog gf = true) (hI : Iter Try.prog gf lb A S N Ok) (hN : N ≤ 1000000) (hOk : ∀ v, Ok v → v.oneCell' = true) :
    Ctr Try.prog 143 [.func (.func gf) #[] ⟨lb⟩] (A ++ F) (fun v L' => ∃ xs fr, S xs ∧ SlF 3 1 v xs.length xs fr ∧ L' = fr ++ (A ++ F)) := by
  refine spec_body Try.func143 Try.ntmps143 rfl rfl ?_
  refine wc_seq ?_
  refine wc_region ?_
  refine wl_pu (y_assign rfl) rfl ?_
  refine wl_nil ?_
  refine at_then ?_
  refine wc_seq ?_
  refine wc_region ?_
  refine wl_pu (y_move rfl) rfl ?_
  -- at: op (call {callee:(value (func 189)), args:[c:(slice none 0 0), t3], argTypes:[74, 230]})
  refine wl_do (d_call (by kernel_rfl) rfl (appendI_spec F A he hI hN hOk)) rfl ?_
  rintro v _ ⟨xs, fr, hS, hF, rfl⟩
  refine wl_pu (y_assign rfl) rfl ?_
  refine wl_nil ?_
  refine at_then ?_
  refine wc_ret ?_
  -- at: ret
  refine at_ret1 rfl rfl ?_
  exact ⟨xs, fr, hS, hF, rfl⟩

theorem sortedI_spec (F A : Hp) {gf : FuncId} {lb : List Value} {S : List Value → Prop} {N : Nat} (he : enters Try.prog gf = true) (hI : Iter Try.prog gf lb A (fun xs => ∃ is : List Int, xs = is.map int ∧ is.length ≤ 12 ∧ S xs) N (fun v => ∃ i, v = int i)) (hN : N ≤ 1000000) :
    Ctr Try.prog 130 [.func (.func gf) #[] ⟨lb⟩] (A ++ F) (fun v L' => ∃ (is ys : List Int) (fr : Hp), S (is.map int) ∧ ys.Perm is ∧ ys.Pairwise (· ≤ ·) ∧ SlF 3 1 v ys.length (ys.map int) fr ∧ L' = fr ++ (A ++ F)) := by
  refine spec_body Try.func130 Try.ntmps130 rfl rfl ?_
  refine wc_seq ?_
  refine wc_region ?_
  refine wl_pu (y_assign rfl) rfl ?_
  refine wl_nil ?_
  refine at_then ?_
  refine wc_seq ?_
  refine wc_region ?_
  refine wl_pu (y_move rfl) rfl ?_
  -- at: op (call {callee:(value (func 143)), args:[t4], argTypes:[230]})
  refine wl_do (d_call (by kernel_rfl) rfl (collectI_spec F A he hI hN (by rintro v ⟨i, rfl⟩; rfl))) rfl ?_
  rintro v _ ⟨_, fr, ⟨is, rfl, hlen, hS⟩, hF, rfl⟩
  refine wl_pu (y_assign rfl) rfl ?_
  refine wl_nil ?_
  refine at_then ?_
  refine wc_seq ?_
  refine wc_region ?_
  refine wl_pu (y_move rfl) rfl ?_
  -- at: op (call {callee:(value (func 91)), args:[t6], argTypes:[74]})
  refine wl_do (d_call (by kernel_rfl) rfl (sortI_spec (A ++ F) (v := v) (xs := is) (by simpa using hF) hlen)) rfl ?_
  rintro _ _ ⟨ys, fr', hp, hw, hS', rfl⟩
  refine wl_nil ?_
  refine at_then ?_
  refine wc_seq ?_
  refine wc_region ?_
  refine wl_pu (y_move rfl) rfl ?_
  refine wl_pu (y_assign rfl) rfl ?_
  refine wl_nil ?_
  refine at_then ?_
  refine wc_ret ?_
  -- at: ret
  refine at_ret1 rfl rfl ?_
  exact ⟨is, ys, fr', hS, hp, hw, hS', rfl⟩
end Go.Proofs.Ytkpndnjhfocheaa
