/- slices.DeleteFunc, Values; the keys and values of a map of sectors; row.others, row.whole. -/
import Derived.Test.YtkpndnjhfocheaaRaidE
namespace Go.Proofs.Ytkpndnjhfocheaa
open Go.SL
variable {X : Inhabited SL.Outside}

theorem set_take {zs : List Int} {i : Nat} (h : i < zs.length) (z : Int) : (zs.set i z).take (i + 1) = zs.take i ++ [z] := by
  rw [List.take_succ_eq_append_getElem (by rw [List.length_set]; exact h), List.getElem_set_self, List.take_set, List.set_eq_of_length_le (by rw [List.length_take]; omega)]
theorem set_drop {zs : List Int} {i j : Nat} (h : i < j) (z : Int) : (zs.set i z).drop j = zs.drop j := by
  rw [List.drop_set, if_pos h]

theorem delS_spec (F A : Hp) {gf : FuncId} {lb : List Value} (b cap : Nat) (xs : List Int) (sp : List Value) (p : Int → Bool) (he : enters Try.prog gf = true) (hp : ∀ x ∈ xs, ∀ F', Ctr Try.prog gf (int x :: lb) (A ++ F') (fun u L' => u = .bool (p x) ∧ L' = A ++ F'))
    (hc : xs.length + sp.length = cap) (hn : xs.length ≤ 1000000) :
    Ctr Try.prog 185 [sl b 0 xs.length cap, .func (.func gf) #[] ⟨lb⟩] ((b, row 3 (xs.map int ++ sp)) :: (A ++ F)) (fun u L' => ∃ fr, SlF 3 1 u (xs.filter (!p ·)).length ((xs.filter (!p ·)).map int) fr ∧ L' = fr ++ (A ++ F)) := by
  have hS : SlF 3 1 (sl b 0 xs.length cap) xs.length (xs.map int) [(b, row 3 (xs.map int ++ sp))] := .own b _ cap _ sp (by simp) (by omega) (by simpa using hc)
  refine spec_body Try.func185 Try.ntmps185 rfl rfl ?_
  refine wc_seq ?_
  refine wc_region ?_
  refine wl_pu (y_assign rfl) rfl ?_
  refine wl_nil ?_
  refine at_then ?_
  refine wc_seq ?_
  refine wc_region ?_
  refine wl_pu (y_move rfl) rfl ?_
  refine wl_pu (y_move rfl) rfl ?_
  -- at: op (call {callee:(value (func 171)), args:[t8, t9], argTypes:[74, 65]})
  refine wl_heap ([(b, row 3 (xs.map int ++ sp))] ++ (A ++ F)) rfl ?_
  refine wl_do (d_call (by kernel_rfl) rfl (idxf_spec F A p he hp hS hn)) rfl ?_
  rintro _ _ ⟨i, rfl, hi, rfl⟩
  refine wl_heap ((b, row 3 (xs.map int ++ sp)) :: (A ++ F)) rfl ?_
  refine wl_pu (y_assign rfl) rfl ?_
  refine wl_nil ?_
  refine at_then ?_
  refine wc_seq ?_
  refine wc_seq ?_
  refine wc_region ?_
  refine wl_pu (y_move rfl) rfl ?_
  refine wl_pu (y_eql rfl rfl) rfl ?_
  refine wl_nil ?_
  refine at_then ?_
  -- at: cond
  rcases hi with ⟨rfl, hno⟩ | ⟨q, rfl, hlo, hq, hpq⟩
  · skip
    refine wc_condD rfl (fun _ => ?_) (fun hc => absurd (rfl) hc)
    refine wc_seq ?_
    refine wc_region ?_
    refine wl_pu (y_move rfl) rfl ?_
    refine wl_pu (y_assign rfl) rfl ?_
    refine wl_nil ?_
    refine at_then ?_
    refine wc_ret ?_
    refine at_then_ret ?_
    -- at: ret
    refine at_ret1 rfl rfl ?_
    have hf : xs.filter (!p ·) = xs := List.filter_eq_self.2 fun x hx => by simp [hno x hx]
    exact ⟨_, by rw [hf]; exact hS, rfl⟩
  · skip
    have hf0 : xs.take q = (xs.take (q + 1)).filter (!p ·) := by
      rw [List.take_succ_eq_append_getElem hq, List.filter_append, List.filter_eq_self.2 (fun x hx => ?_)]
      · simp [hpq]
      · obtain ⟨q', hq', rfl⟩ := List.getElem_of_mem hx
        rw [List.getElem_take]
        simp [hlo q' (by have := hq'; rw [List.length_take] at this; omega) (by have := hq'; rw [List.length_take] at this; omega)]
    refine wc_condD rfl (fun hc => absurd hc ((by omega))) (fun _ => ?_)
    refine wc_skip ?_
    refine at_then ?_
    refine wc_seq ?_
    refine wc_seq ?_
    refine wc_region ?_
    refine wl_pu (y_move rfl) rfl ?_
    refine wl_pu (y_add rfl rfl (by omega)) rfl ?_
    refine wl_pu (y_assign rfl) rfl ?_
    refine wl_nil ?_
    refine at_then ?_
    refine wc_block ?_
    -- at: loop
    refine wc_loop (σ := Nat × Nat × List Int) (fun s => s.1 < s.2.1 ∧ s.2.1 ≤ xs.length ∧ s.2.2.length = xs.length ∧ s.2.2.take s.1 = (xs.take s.2.1).filter (!p ·) ∧ s.2.2.drop s.2.1 = xs.drop s.2.1) (fun s => xs.length - s.2.1)
      (fun s => [(0, sl b 0 xs.length cap), (1, .func (.func gf) #[] ⟨lb⟩), (5, int (s.1 : Int)), (6, int (s.2.1 : Int))]) (fun s => (b, row 3 (s.2.2.map int ++ sp)) :: (A ++ F)) (q, q + 1, xs) ⟨Nat.lt_succ_self _, hq, rfl, hf0, rfl⟩ ⟨rfl, rfl, rfl, rfl, trivial⟩ rfl ?_
    rintro ⟨i, j, zs⟩ ⟨hij, hj, hz, hti, hdj⟩
    simp only [] at hij hj hz hti hdj
    show WC _ _ _ _ [(0, sl b 0 xs.length cap), (1, .func (.func gf) #[] ⟨lb⟩), (5, int (i : Int)), (6, int (j : Int))] ((b, row 3 (zs.map int ++ sp)) :: (A ++ F))
    refine wc_seq ?_
    refine wc_seq ?_
    refine wc_region ?_
    refine wl_pu (y_move rfl) rfl ?_
    refine wl_pu (y_move rfl) rfl ?_
    refine wl_pu (y_lenL Try.underlying74 rfl) rfl ?_
    refine wl_pu (y_lss rfl rfl) rfl ?_
    refine wl_nil ?_
    refine at_then ?_
    -- at: cond
    refine wc_condD rfl (fun h => ?_) (fun h => ?_)
    · skip
      have hj' : j < xs.length := by omega
      have hzj : zs[j]'(by omega) = xs[j] := by
        have h1 := congrArg List.head? hdj
        rw [List.head?_drop, List.head?_drop, List.getElem?_eq_getElem (by omega), List.getElem?_eq_getElem hj'] at h1
        exact Option.some.inj h1
      have hd1 : zs.drop (j + 1) = xs.drop (j + 1) := by
        have h1 := congrArg List.tail hdj
        rwa [List.tail_drop, List.tail_drop] at h1
      refine wc_skip ?_
      refine at_then ?_
      refine wc_seq ?_
      refine wc_block ?_
      refine wc_seq ?_
      refine wc_region ?_
      refine wl_pu (y_move rfl) rfl ?_
      refine wl_pu (y_move rfl) rfl ?_
      first | refine wl_pu (y_ix1 Try.underlying74 (by kernel_rfl) rfl rfl (by omega)) rfl ?_ | refine wl_pu (y_ix 1 Try.underlying74 (by kernel_rfl) rfl rfl (by omega)) rfl ?_
      refine wl_rd (y_load 0 rfl rfl (v := int xs[j]) (by rw [Int.toNat_natCast, ← hzj]; exact ints_at (by omega)) (by kernel_rfl)) rfl ?_
      refine wl_pu (y_assign rfl) rfl ?_
      refine wl_nil ?_
      refine at_then ?_
      refine wc_seq ?_
      refine wc_region ?_
      refine wl_pu (y_move rfl) rfl ?_
      refine wl_pu (y_move rfl) rfl ?_
      -- at: op (call {callee:(value t26), args:[t27], argTypes:[3]})
      refine wl_perm (L' := A ++ ((b, row 3 (zs.map int ++ sp)) :: F)) perm_mid.symm ?_
      refine wl_do (d_callv he rfl rfl (hp xs[j] (List.getElem_mem hj') _)) rfl ?_
      rintro _ L9 ⟨rfl, hL9⟩
      rw [hL9]
      clear hL9
      refine wl_perm (L' := (b, row 3 (zs.map int ++ sp)) :: (A ++ F)) perm_mid ?_
      first | refine wl_pu (y_notT rfl) rfl ?_ | refine wl_pu (y_notF rfl) rfl ?_ | refine wl_pu (y_not rfl) rfl ?_ | refine wl_pu (y_notB rfl) rfl ?_
      refine wl_nil ?_
      refine at_then ?_
      -- at: cond
      refine wc_condB rfl (fun hb => ?_) (fun hb => ?_)
      · skip
        have hb' : p xs[j] = false := by simpa using hb
        refine wc_seq ?_
        refine wc_region ?_
        refine wl_pu (y_move rfl) rfl ?_
        refine wl_pu (y_move rfl) rfl ?_
        refine wl_pu (y_move rfl) rfl ?_
        first | refine wl_pu (y_ix1 Try.underlying74 (by kernel_rfl) rfl rfl (by omega)) rfl ?_ | refine wl_pu (y_ix 1 Try.underlying74 (by kernel_rfl) rfl rfl (by omega)) rfl ?_
        refine wl_do0 (d_store 0 rfl rfl rfl (by rw [Int.toNat_natCast]; exact Nat.ble_eq_true_of_le (by simp; omega)) rfl (by kernel_rfl)) (fun _ _ hL => ?_)
        subst hL
        refine wl_heap ((b, row 3 ((zs.set i xs[j]).map int ++ sp)) :: (A ++ F)) (by show (b, row 3 _) :: _ = _; rw [Int.toNat_natCast, ints_set (by omega)]) ?_
        refine wl_nil ?_
        refine at_then ?_
        refine wc_region ?_
        refine wl_pu (y_move rfl) rfl ?_
        refine wl_pu (y_add rfl rfl (by omega)) rfl ?_
        refine wl_pu (y_assign rfl) rfl ?_
        refine wl_nil ?_
        refine at_block_normal ?_
        refine at_then ?_
        refine wc_region ?_
        refine wl_pu (y_move rfl) rfl ?_
        refine wl_pu (y_add rfl rfl (by omega)) rfl ?_
        refine wl_pu (y_assign rfl) rfl ?_
        refine wl_nil ?_
        -- at: round
        refine at_again (i + 1, j + 1, zs.set i xs[j]) ⟨Nat.succ_lt_succ hij, hj', by show (zs.set i xs[j]).length = xs.length; rw [List.length_set]; exact hz, ?_, ?_⟩ (by show xs.length - (j + 1) < xs.length - j; omega) ⟨rfl, rfl, rfl, rfl, trivial⟩ rfl
        · show (zs.set i xs[j]).take (i + 1) = (xs.take (j + 1)).filter (!p ·)
          rw [set_take (by omega), hti, List.take_succ_eq_append_getElem hj', List.filter_append]
          simp [hb']
        · show (zs.set i xs[j]).drop (j + 1) = xs.drop (j + 1)
          rw [set_drop (by omega), hd1]
      · skip
        have hb' : p xs[j] = true := by simpa using hb
        refine wc_skip ?_
        refine at_block_normal ?_
        refine at_then ?_
        refine wc_region ?_
        refine wl_pu (y_move rfl) rfl ?_
        refine wl_pu (y_add rfl rfl (by omega)) rfl ?_
        refine wl_pu (y_assign rfl) rfl ?_
        refine wl_nil ?_
        -- at: round
        refine at_again (i, j + 1, zs) ⟨Nat.lt_succ_of_lt hij, hj', hz, ?_, hd1⟩ (by show xs.length - (j + 1) < xs.length - j; omega) ⟨rfl, rfl, rfl, rfl, trivial⟩ rfl
        show zs.take i = (xs.take (j + 1)).filter (!p ·)
        rw [hti, List.take_succ_eq_append_getElem hj', List.filter_append]
        simp [hb']
    · skip
      have hjl : j = xs.length := by omega
      subst hjl
      have hml : i ≤ zs.length := by omega
      obtain ⟨sp', hsp, hspl⟩ := clear_row (sp := sp) (cap := cap) hml (by omega)
      refine wc_exit ?_
      refine at_then_exit ?_
      refine at_then_exit ?_
      refine at_block_same ?_
      refine at_then ?_
      refine wc_seq ?_
      refine wc_region ?_
      refine wl_pu (y_move rfl) rfl ?_
      refine wl_pu (y_move rfl) rfl ?_
      refine wl_pu (y_fromL 1 Try.underlying74 (by kernel_rfl) rfl rfl (by omega)) rfl ?_
      -- at: op (call {callee:(builtin clear), args:[t38], argTypes:[74]})
      refine wl_do0 (d_clear (z := int 0) 0 Try.underlying74 (zeroB_of (by kernel_rfl)) rfl rfl rfl ?_) (fun _ _ hL => ?_)
      · rw [Int.toNat_natCast, List.length_append, List.length_map]
        split <;> omega
      subst hL
      refine wl_heap ((b, row 3 ((zs.take i).map int ++ sp')) :: (A ++ F)) (by show (b, row 3 _) :: _ = _; rw [Int.toNat_natCast, ← hz, hsp]) ?_
      refine wl_nil ?_
      refine at_then ?_
      refine wc_seq ?_
      refine wc_region ?_
      refine wl_pu (y_move rfl) rfl ?_
      refine wl_pu (y_move rfl) rfl ?_
      refine wl_pu (y_toL 1 Try.underlying74 (by kernel_rfl) rfl rfl (by omega)) rfl ?_
      refine wl_pu (y_assign rfl) rfl ?_
      refine wl_nil ?_
      refine at_then ?_
      refine wc_ret ?_
      -- at: ret
      refine at_ret1 rfl rfl ?_
      have htl : (zs.take i).length = i := by rw [List.length_take]; omega
      rw [List.take_length] at hti
      rw [Int.toNat_natCast, ← hti, htl]
      exact ⟨_, .own b i cap _ sp' (by simpa using htl) (by omega) (by rw [List.length_map, htl]; omega), rfl⟩

theorem del_spec (F A : Hp) {gf : FuncId} {lb : List Value} {v : Value} {xs : List Int} {fr : Hp} (p : Int → Bool) (he : enters Try.prog gf = true) (hp : ∀ x ∈ xs, ∀ F', Ctr Try.prog gf (int x :: lb) (A ++ F') (fun u L' => u = .bool (p x) ∧ L' = A ++ F'))
    (hS : SlF 3 1 v xs.length (xs.map int) fr) (hn : xs.length ≤ 1000000) (h0 : 0 < xs.length) :
    Ctr Try.prog 185 [v, .func (.func gf) #[] ⟨lb⟩] (fr ++ (A ++ F)) (fun u L' => ∃ fr, SlF 3 1 u (xs.filter (!p ·)).length ((xs.filter (!p ·)).map int) fr ∧ L' = fr ++ (A ++ F)) := by
  obtain ⟨b, cap, sp, rfl, rfl, hcap, hl⟩ := slF_cons hS h0
  exact delS_spec F A b cap xs sp p he hp (by simpa using hl) hn

/-! slices.Values -/
theorem map_int_inj : ∀ {a b : List Int}, a.map int = b.map int → a = b
  | [], [], _ => rfl
  | [], _ :: _, h => by simp at h
  | _ :: _, [], h => by simp at h
  | x :: a, y :: b, h => by
    simp only [List.map_cons, List.cons.injEq] at h
    rw [map_int_inj h.2]
    injection h.1 with _ h1
    rw [h1]
theorem vals_iter (m : Nat) {v : Value} {xs : List Int} {fr : Hp} (hS : SlF 3 1 v xs.length (xs.map int) fr) (hn : xs.length ≤ 1000000) : Iter Try.prog 188 [ptr m 0] ((m, row 74 [v]) :: fr) (fun ys => ys = xs.map int) xs.length (fun v => ∃ i, v = int i) := by
  intro y J B0 hJ h0
  generalize hk : xs.length = k at hS
  generalize hc : xs.map int = cs at hS
  cases hS with
  | nil =>
    have hx : xs = [] := List.map_eq_nil_iff.1 hc
    subst hx
    show Ctr _ _ [yv y, ptr m 0] ((m, row 74 [.slice none 0 0]) :: B0) _
    refine spec_body Try.func188 Try.ntmps188 rfl rfl ?_
    refine wc_seq ?_
    refine wc_region ?_
    first | refine wl_rd (y_load 0 rfl rfl rfl (by kernel_rfl)) rfl ?_ | refine wl_rd (y_load 1 rfl rfl rfl (by kernel_rfl)) rfl ?_ | refine wl_rd (y_load 2 rfl rfl rfl (by kernel_rfl)) rfl ?_ | refine wl_rd (y_load 3 rfl rfl rfl (by kernel_rfl)) rfl ?_ | refine wl_rd (y_load 4 rfl rfl rfl (by kernel_rfl)) rfl ?_ | refine wl_rd (y_load 5 rfl rfl rfl (by kernel_rfl)) rfl ?_
    refine wl_pu (y_lenL Try.underlying74 rfl) rfl ?_
    refine wl_pu (y_move rfl) rfl ?_
    refine wl_nil ?_
    refine at_then ?_
    refine wc_block ?_
    -- at: loop
    refine wc_loop (σ := Unit) (fun i => True) (fun i => 0) (fun i => [(6, int ((0 : Nat) : Int)), (7, int 0)]) (fun i => (m, row 74 [.slice none 0 0]) :: B0) () trivial ⟨rfl, rfl, trivial⟩ rfl ?_
    intro _ _
    show WC _ _ _ _ [(6, int ((0 : Nat) : Int)), (7, int 0)] _
    refine wc_seq ?_
    refine wc_region ?_
    refine wl_pu (y_lss rfl rfl) rfl ?_
    refine wl_nil ?_
    refine at_then ?_
    refine wc_seq ?_
    -- at: cond
    refine wc_condD rfl (fun hc => absurd hc ((by omega))) (fun _ => ?_)
    refine wc_exit ?_
    refine at_then_exit ?_
    refine at_then_exit ?_
    refine at_block_same ?_
    -- at: end
    exact at_end0 rfl ⟨_, B0, rfl, h0, rfl⟩
  | own b _ cap _ sp hx hcap hs =>
    subst hk
    subst hc
    show Ctr _ _ [yv y, ptr m 0] ((m, row 74 [sl b 0 xs.length cap]) :: (b, row 3 (xs.map int ++ sp)) :: B0) _
    refine spec_body Try.func188 Try.ntmps188 rfl rfl ?_
    refine wc_seq ?_
    refine wc_region ?_
    first | refine wl_rd (y_load 0 rfl rfl rfl (by kernel_rfl)) rfl ?_ | refine wl_rd (y_load 1 rfl rfl rfl (by kernel_rfl)) rfl ?_ | refine wl_rd (y_load 2 rfl rfl rfl (by kernel_rfl)) rfl ?_ | refine wl_rd (y_load 3 rfl rfl rfl (by kernel_rfl)) rfl ?_ | refine wl_rd (y_load 4 rfl rfl rfl (by kernel_rfl)) rfl ?_ | refine wl_rd (y_load 5 rfl rfl rfl (by kernel_rfl)) rfl ?_
    refine wl_pu (y_lenL Try.underlying74 rfl) rfl ?_
    refine wl_pu (y_move rfl) rfl ?_
    refine wl_nil ?_
    refine at_then ?_
    refine wc_block ?_
    -- at: loop
    refine wc_loop (σ := Nat × Hp) (fun s => s.1 ≤ xs.length ∧ J ((xs.take s.1).map int) s.2) (fun s => xs.length - s.1) (fun s => [(1, ptr m 0), (0, yv y), (5, sl b 0 xs.length cap), (6, int (xs.length : Int)), (7, int (s.1 : Int))])
      (fun s => (m, row 74 [sl b 0 xs.length cap]) :: (b, row 3 (xs.map int ++ sp)) :: s.2) (0, B0) ⟨Nat.zero_le _, h0⟩ ⟨rfl, rfl, rfl, rfl, rfl, trivial⟩ rfl ?_
    rintro ⟨i, B⟩ ⟨hi, hB⟩
    simp only [] at hi hB
    show WC _ _ _ _ [(1, ptr m 0), (0, yv y), (5, sl b 0 xs.length cap), (6, int (xs.length : Int)), (7, int (i : Int))] ((m, row 74 [sl b 0 xs.length cap]) :: (b, row 3 (xs.map int ++ sp)) :: B)
    refine wc_seq ?_
    refine wc_region ?_
    refine wl_pu (y_lss rfl rfl) rfl ?_
    refine wl_nil ?_
    refine at_then ?_
    refine wc_seq ?_
    -- at: cond
    refine wc_condD rfl (fun h => ?_) (fun h => ?_)
    · skip
      have hi' : i < xs.length := by omega
      refine wc_skip ?_
      refine at_then ?_
      refine wc_seq ?_
      refine wc_block ?_
      refine wc_seq ?_
      refine wc_region ?_
      first | refine wl_pu (y_ix1 Try.underlying74 (by kernel_rfl) rfl rfl (by omega)) rfl ?_ | refine wl_pu (y_ix 1 Try.underlying74 (by kernel_rfl) rfl rfl (by omega)) rfl ?_
      refine wl_rd (y_load 1 rfl rfl (v := int xs[i]) (by rw [Int.toNat_natCast]; exact ints_at hi') (by kernel_rfl)) rfl ?_
      refine wl_pu (y_assign rfl) rfl ?_
      refine wl_nil ?_
      refine at_then ?_
      refine wc_seq ?_
      refine wc_yield rfl rfl rfl rfl rfl rfl rfl (hJ [(m, row 74 [sl b 0 xs.length cap]), (b, row 3 (xs.map int ++ sp))] _ _ B (by simp; omega) ⟨_, rfl⟩ hB) ?_
      rintro _ _ ⟨rfl, B', rfl, hB'⟩
      refine ⟨true, rfl, ?_⟩
      refine at_then ?_
      -- at: cond
      refine wc_condF rfl ?_
      refine wc_skip ?_
      refine at_block_normal ?_
      refine at_then ?_
      refine wc_region ?_
      refine wl_pu (y_add rfl rfl (by omega)) rfl ?_
      refine wl_pu (y_move rfl) rfl ?_
      refine wl_nil ?_
      -- at: round
      refine at_again (i + 1, B') ⟨hi', ?_⟩ (by show xs.length - (i + 1) < xs.length - i; omega) ⟨rfl, rfl, rfl, rfl, rfl, trivial⟩ rfl
      show J ((xs.take (i + 1)).map int) B'
      rw [List.take_succ_eq_append_getElem hi', List.map_append]
      exact hB'
    · skip
      have hil : i = xs.length := by omega
      subst hil
      refine wc_exit ?_
      refine at_then_exit ?_
      refine at_then_exit ?_
      refine at_block_same ?_
      -- at: end
      rw [List.take_length] at hB
      exact at_end0 rfl ⟨_, B, rfl, hB, rfl⟩

theorem vals_spec (F : Hp) (v : Value) (hv : v.oneCell' = true) : Ctr Try.prog 142 [v] F (fun u L' => ∃ m, u = .func (.func 188) #[] #[ptr m 0] ∧ L' = (m, row 74 [v]) :: F) := by
  have hvc : v.cells = #[v] := by cases v <;> simp_all [Value.cells, Value.oneCell']
  refine spec_body Try.func142 Try.ntmps142 rfl rfl ?_
  refine wc_seq ?_
  refine wc_region ?_
  refine wl_do (d_box rfl) rfl ?_
  rintro _ _ ⟨bNEW, rfl, rfl⟩
  rw [hvc]
  refine wl_pu (y_assign rfl) rfl ?_
  refine wl_nil ?_
  refine at_then ?_
  refine wc_seq ?_
  refine wc_region ?_
  refine wl_pu (y_makeFunc1 rfl) rfl ?_
  refine wl_pu (y_assign rfl) rfl ?_
  refine wl_nil ?_
  refine at_then ?_
  refine wc_ret ?_
  -- at: ret
  refine at_ret1 rfl rfl ?_
  exact ⟨_, rfl, rfl⟩

/-- slices.Sorted of slices.Values -/
theorem sortv_spec (F : Hp) (m : Nat) {v : Value} {xs : List Int} {fr : Hp} (hS : SlF 3 1 v xs.length (xs.map int) fr) (hn : xs.length ≤ 12) :
    Ctr Try.prog 130 [.func (.func 188) #[] #[ptr m 0]] ((m, row 74 [v]) :: fr ++ F) (fun u L' => ∃ (ys : List Int) (fs : Hp), ys.Perm xs ∧ SlF 3 1 u ys.length (ys.map int) fs ∧ L' = fs ++ ((m, row 74 [v]) :: fr ++ F)) := by
  refine (sortedI_spec F ((m, row 74 [v]) :: fr) (S := fun ys => ys = xs.map int) (by kernel_rfl) ((vals_iter m hS (by omega)).mono fun ys hy => ⟨xs, hy, hn, hy⟩) (by omega)).mono ?_
  rintro u _ ⟨is, ys, fs, he, hp, _, hS', rfl⟩
  have : is = xs := map_int_inj he
  subst this
  exact ⟨ys, fs, hp, hS', rfl⟩
end Go.Proofs.Ytkpndnjhfocheaa
