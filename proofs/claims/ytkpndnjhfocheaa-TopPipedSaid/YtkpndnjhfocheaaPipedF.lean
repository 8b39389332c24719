/- The wheel's Advance, with one timer or none; the sort of a row of one or none. -/
import Derived.Test.YtkpndnjhfocheaaPipedE
namespace Go.Proofs.Ytkpndnjhfocheaa
open Go.SL
variable {X : Inhabited SL.Outside}

theorem ixTab {l : List UInt8} {j : Int} (h : 0 ≤ j ∧ j < 256) (hl : Nat.ble 256 l.length = true) : 0 ≤ j ∧ j < l.length := by
  have := Nat.le_of_ble_eq_true hl
  omega

theorem bits64_spec (L : Hp) (x : Int) (h : 0 ≤ x ∧ x < 256) : Ctr Try.prog 168 [.int .u64 x] L (fun v L' => (∃ r : Int, v = int r) ∧ L' = L) := by
  refine spec_body Try.func168 Try.ntmps168 rfl rfl ?_
  refine wc_seq ?_
  refine wc_region ?_
  refine wl_pu (y_assign rfl) rfl ?_
  refine wl_nil ?_
  refine at_then ?_
  refine wc_seq ?_
  refine wc_seq ?_
  refine wc_region ?_
  refine wl_pu (y_move rfl) rfl ?_
  refine wl_pu (y_geq rfl rfl) rfl ?_
  refine wl_nil ?_
  refine at_then ?_
  -- at: cond
  refine wc_condD rfl (fun hc => absurd hc ((by omega))) (fun _ => ?_)
  refine wc_skip ?_
  refine at_then ?_
  refine wc_seq ?_
  refine wc_seq ?_
  refine wc_region ?_
  refine wl_pu (y_move rfl) rfl ?_
  refine wl_pu (y_geq rfl rfl) rfl ?_
  refine wl_nil ?_
  refine at_then ?_
  -- at: cond
  refine wc_condD rfl (fun hc => absurd hc ((by omega))) (fun _ => ?_)
  refine wc_skip ?_
  refine at_then ?_
  refine wc_seq ?_
  refine wc_seq ?_
  refine wc_region ?_
  refine wl_pu (y_move rfl) rfl ?_
  refine wl_pu (y_geq rfl rfl) rfl ?_
  refine wl_nil ?_
  refine at_then ?_
  -- at: cond
  refine wc_condD rfl (fun hc => absurd hc ((by omega))) (fun _ => ?_)
  refine wc_skip ?_
  refine at_then ?_
  refine wc_seq ?_
  refine wc_region ?_
  refine wl_pu (y_move rfl) rfl ?_
  refine wl_pu (y_move rfl) rfl ?_
  first | refine wl_pu (y_conv Try.underlying110 Try.underlying5 rfl (IntWalk.u8_in _ (by omega))) rfl ?_ | refine wl_pu (y_conv Try.underlying110 Try.underlying5 rfl rfl) rfl ?_
  refine wl_pu (y_ixS Try.underlying9 rfl rfl (ixTab (by omega) (by kernel_rfl))) rfl ?_
  generalize hv : at8 _ x = v8
  have h8 : 0 ≤ v8 ∧ v8 < 256 := by rw [← hv]; exact ⟨at8_lo _ _, at8_hi _ _⟩
  first | refine wl_pu (y_conv Try.underlying5 Try.underlying3 rfl (IntWalk.i64_in _ (by omega))) rfl ?_ | refine wl_pu (y_conv Try.underlying5 Try.underlying3 rfl rfl) rfl ?_
  refine wl_pu (y_add rfl rfl (by omega)) rfl ?_
  refine wl_pu (y_assign rfl) rfl ?_
  refine wl_nil ?_
  refine at_then ?_
  refine wc_ret ?_
  -- at: ret
  refine at_ret1 rfl rfl ?_
  exact ⟨⟨_, rfl⟩, rfl⟩

theorem bits_spec (L : Hp) (x : Int) (h : 0 ≤ x ∧ x < 256) : Ctr Try.prog 116 [.int .u64 x] L (fun v L' => (∃ r : Int, v = int r) ∧ L' = L) := by
  refine spec_body Try.func116 Try.ntmps116 rfl rfl ?_
  refine wc_seq ?_
  refine wc_region ?_
  refine wl_pu (y_assign rfl) rfl ?_
  refine wl_nil ?_
  refine at_then ?_
  refine wc_seq ?_
  -- at: cond
  refine wc_condF rfl ?_
  refine wc_skip ?_
  refine at_then ?_
  refine wc_seq ?_
  refine wc_region ?_
  refine wl_pu (y_move rfl) rfl ?_
  -- at: op (call {callee:(value (func 168)), args:[t6], argTypes:[110]})
  refine wl_do (d_call (by kernel_rfl) rfl (bits64_spec _ _ h)) rfl ?_
  rintro _ _ ⟨⟨r, rfl⟩, rfl⟩
  refine wl_pu (y_assign rfl) rfl ?_
  refine wl_nil ?_
  refine at_then ?_
  refine wc_ret ?_
  -- at: ret
  refine at_ret1 rfl rfl ?_
  exact ⟨⟨_, rfl⟩, rfl⟩

theorem ins_spec (L : Hp) (p : Option Addr) (m c : Nat) (hm : m ≤ 1) : Ctr Try.prog 159 [.slice p m c, int 0, int m, .func (.func 71) #[] #[]] L (fun _ L' => L' = L) := by
  refine spec_body Try.func159 Try.ntmps159 rfl rfl ?_
  refine wc_seq ?_
  refine wc_region ?_
  refine wl_pu (y_move rfl) rfl ?_
  refine wl_pu (y_add rfl rfl (by omega)) rfl ?_
  refine wl_pu (y_assign rfl) rfl ?_
  refine wl_nil ?_
  refine at_then ?_
  refine wc_block ?_
  -- at: loop
  refine wc_loop (σ := Unit) (fun _ => True) (fun _ => 0) (fun _ => [(2, int m), (8, int (0 + 1))]) (fun _ => L) () trivial ⟨rfl, rfl, trivial⟩ rfl ?_
  intro _ _
  refine wc_seq ?_
  refine wc_seq ?_
  refine wc_region ?_
  refine wl_pu (y_move rfl) rfl ?_
  refine wl_pu (y_move rfl) rfl ?_
  refine wl_pu (y_lss rfl rfl) rfl ?_
  refine wl_nil ?_
  refine at_then ?_
  -- at: cond
  refine wc_condD rfl (fun hc => absurd hc ((by omega))) (fun _ => ?_)
  refine wc_exit ?_
  refine at_then_exit ?_
  refine at_then_exit ?_
  refine at_block_same ?_
  -- at: end
  refine at_end0 rfl ?_
  exact rfl

theorem pdq_spec (L : Hp) (p : Option Addr) (m c : Nat) (r : Int) (hm : m ≤ 1) : Ctr Try.prog 115 [.slice p m c, int 0, int m, int r, .func (.func 71) #[] #[]] L (fun _ L' => L' = L) := by
  refine spec_body Try.func115 Try.ntmps115 rfl rfl ?_
  refine wc_seq ?_
  refine wc_region ?_
  refine wl_pu (y_assign rfl) rfl ?_
  refine wl_nil ?_
  refine at_then ?_
  refine wc_seq ?_
  refine wc_region ?_
  refine wl_pu (y_assign rfl) rfl ?_
  refine wl_nil ?_
  refine at_then ?_
  refine wc_block ?_
  -- at: loop
  refine wc_loop (σ := Unit) (fun _ => True) (fun _ => 0) (fun _ => [(0, .slice p m c), (1, int 0), (2, int m), (4, .func (.func 71) #[] #[])]) (fun _ => L) () trivial ⟨rfl, rfl, rfl, rfl, trivial⟩ rfl ?_
  intro _ _
  refine wc_block ?_
  refine wc_seq ?_
  refine wc_region ?_
  refine wl_pu (y_move rfl) rfl ?_
  refine wl_pu (y_move rfl) rfl ?_
  refine wl_pu (y_sub rfl rfl (by omega)) rfl ?_
  refine wl_pu (y_assign rfl) rfl ?_
  refine wl_nil ?_
  refine at_then ?_
  refine wc_seq ?_
  refine wc_seq ?_
  refine wc_region ?_
  refine wl_pu (y_move rfl) rfl ?_
  refine wl_pu (y_leq rfl rfl) rfl ?_
  refine wl_nil ?_
  refine at_then ?_
  -- at: cond
  refine wc_condD rfl (fun _ => ?_) (fun hc => absurd ((by omega)) hc)
  refine wc_seq ?_
  refine wc_region ?_
  refine wl_pu (y_move rfl) rfl ?_
  refine wl_pu (y_move rfl) rfl ?_
  refine wl_pu (y_move rfl) rfl ?_
  refine wl_pu (y_move rfl) rfl ?_
  -- at: op (call {callee:(value (func 159)), args:[t26, t27, t28, t29], argTypes:[144, 3, 3, 158]})
  refine wl_do (d_call (by kernel_rfl) rfl (ins_spec _ _ _ _ hm)) rfl ?_
  rintro _ _ rfl
  refine wl_nil ?_
  refine at_then ?_
  refine wc_ret ?_
  refine at_then_ret ?_
  refine at_block_ret ?_
  refine at_then_ret ?_
  refine at_block_ret ?_
  -- at: ret
  refine at_ret0 rfl ?_
  exact rfl

theorem wsort_spec (L : Hp) (p : Option Addr) (m c : Nat) (hm : m ≤ 1) : Ctr Try.prog 70 [.slice p m c, .func (.func 71) #[] #[]] L (fun _ L' => L' = L) := by
  refine spec_body Try.func70 Try.ntmps70 rfl rfl ?_
  refine wc_seq ?_
  refine wc_region ?_
  refine wl_pu (y_move rfl) rfl ?_
  refine wl_pu (y_lenL Try.underlying144 rfl) rfl ?_
  refine wl_pu (y_assign rfl) rfl ?_
  refine wl_nil ?_
  refine at_then ?_
  refine wc_region ?_
  refine wl_pu (y_move rfl) rfl ?_
  refine wl_pu (y_move rfl) rfl ?_
  refine wl_pu (y_move rfl) rfl ?_
  first | refine wl_pu (y_conv Try.underlying3 Try.underlying112 rfl (IntWalk.u64_in _ (by omega))) rfl ?_ | refine wl_pu (y_conv Try.underlying3 Try.underlying112 rfl rfl) rfl ?_
  -- at: op (call {callee:(value (func 116)), args:[t10], argTypes:[112]})
  refine wl_do (d_call (by kernel_rfl) rfl (bits_spec _ _ (by omega))) rfl ?_
  rintro _ _ ⟨⟨r, rfl⟩, rfl⟩
  refine wl_pu (y_move rfl) rfl ?_
  -- at: op (call {callee:(value (func 115)), args:[t7, c:(int i64 0), t8, t11, t12], argTypes:[144, 3, 3, 3, 15
  refine wl_do (d_call (by kernel_rfl) rfl (pdq_spec _ _ _ _ _ hm)) rfl ?_
  rintro _ _ rfl
  refine wl_nil ?_
  -- at: end
  refine at_end0 rfl ?_
  exact rfl

def mix (i : Nat) (f g : Nat → Value) : Nat → Value := fun j => if j < i then g j else f j
theorem mix_zero (f g : Nat → Value) : mix 0 f g = f := by funext j; simp [mix]
theorem mix_at (i : Nat) (f g : Nat → Value) : mix i f g i = f i := by simp [mix]
theorem mix_set (i : Nat) (f g : Nat → Value) (v : Value) (h : g i = v) : (fun j => if j = i then v else mix i f g j) = mix (i + 1) f g := by
  funext j
  by_cases h1 : j = i
  · subst h1; simp [mix, h]
  · simp only [mix, if_neg h1]
    by_cases h2 : j < i
    · rw [if_pos h2, if_pos (by omega)]
    · rw [if_neg h2, if_neg (by omega)]
theorem mix_all (f g : Nat → Value) (now last : Int) : wrow (mix 16 f g) now last = wrow g now last := by simp [wrow, mix]

theorem wadv0_spec (F : Hp) (b k c : Nat) (p : Option Addr) (now last to : Int) :
    Ctr Try.prog 29 [ptr b 0, int to] ((b, whl (at1 k p 0 c) now last) :: F)
      (fun v L' => v = .slice none 0 0 ∧ L' = (b, whl nils (max now to) last) :: F) := by
  refine spec_body Try.func29 Try.ntmps29 rfl rfl ?_
  refine wc_seq ?_
  refine wc_region ?_
  refine wl_pu (y_assign rfl) rfl ?_
  refine wl_nil ?_
  refine at_then ?_
  refine wc_seq ?_
  refine wc_seq ?_
  refine wc_region ?_
  refine wl_pu (y_move rfl) rfl ?_
  -- at: op (call {callee:(value (func 62)), args:[t13], argTypes:[54]})
  refine wl_do (d_call (by kernel_rfl) rfl (wnone_spec _ _ _ _ _)) rfl ?_
  rintro _ _ ⟨rfl, rfl⟩
  refine wl_nil ?_
  refine at_then ?_
  -- at: cond
  refine wc_condF rfl ?_
  refine wc_skip ?_
  refine at_then ?_
  refine wc_seq ?_
  refine wc_region ?_
  refine wl_pu (y_move rfl) rfl ?_
  refine wl_pu (y_move rfl) rfl ?_
  refine wl_pu (y_nil rfl) rfl ?_
  first | refine wl_pu (y_fieldAddr0 16 Try.underlying147 rfl rfl (by kernel_rfl) rfl) rfl ?_ | refine wl_pu (y_fieldAddr 16 Try.underlying147 rfl rfl (by kernel_rfl) rfl) rfl ?_
  refine wl_rd (y_load 0 rfl rfl (v := int now) rfl (by kernel_rfl)) rfl ?_
  refine wl_pu (y_move rfl) rfl ?_
  refine wl_pu (y_max rfl rfl) rfl ?_
  refine wl_pu (y_nil rfl) rfl ?_
  first | refine wl_pu (y_fieldAddr0 16 Try.underlying147 rfl rfl (by kernel_rfl) rfl) rfl ?_ | refine wl_pu (y_fieldAddr 16 Try.underlying147 rfl rfl (by kernel_rfl) rfl) rfl ?_
  refine wl_do0 (d_store 0 rfl rfl rfl rfl rfl (by kernel_rfl)) (fun _ _ hL => ?_)
  subst hL
  refine wl_heap ((b, whl (mix 0 (at1 k p 0 c) nils) (max now to) last) :: F) (by rw [mix_zero]; rfl) ?_
  refine wl_nil ?_
  refine at_then ?_
  refine wc_seq ?_
  refine wc_region ?_
  refine wl_pu (y_assign rfl) rfl ?_
  refine wl_nil ?_
  refine at_then ?_
  refine wc_seq ?_
  refine wc_seq ?_
  refine wc_region ?_
  refine wl_pu (y_move rfl) rfl ?_
  refine wl_nil ?_
  refine at_then ?_
  refine wc_block ?_
  -- at: loop
  refine wc_loop (σ := Nat) (fun i => i ≤ 16) (fun i => 16 - i) (fun i => [(0, ptr b 0), (5, .slice none 0 0), (24, int (i : Int))])
    (fun i => (b, whl (mix i (at1 k p 0 c) nils) (max now to) last) :: F) 0 (by omega) ⟨rfl, rfl, rfl, trivial⟩ rfl ?_
  intro i hi
  refine wc_seq ?_
  refine wc_region ?_
  refine wl_pu (y_lss rfl rfl) rfl ?_
  refine wl_nil ?_
  refine at_then ?_
  refine wc_seq ?_
  -- at: cond
  refine wc_condD rfl (fun h => ?_) (fun h => ?_)
  · skip
    refine wc_skip ?_
    refine at_then ?_
    refine wc_seq ?_
    refine wc_block ?_
    refine wc_seq ?_
    refine wc_region ?_
    refine wl_pu (y_move rfl) rfl ?_
    refine wl_pu (y_assign rfl) rfl ?_
    refine wl_nil ?_
    refine at_then ?_
    refine wc_seq ?_
    refine wc_region ?_
    refine wl_pu (y_assign rfl) rfl ?_
    refine wl_nil ?_
    refine at_then ?_
    refine wc_seq ?_
    refine wc_seq ?_
    refine wc_region ?_
    refine wl_pu (y_move rfl) rfl ?_
    refine wl_pu (y_move rfl) rfl ?_
    refine wl_pu (y_nil rfl) rfl ?_
    first | refine wl_pu (y_fieldAddr0 0 Try.underlying147 rfl rfl (by kernel_rfl) rfl) rfl ?_ | refine wl_pu (y_fieldAddr 0 Try.underlying147 rfl rfl (by kernel_rfl) rfl) rfl ?_
    refine wl_pu (y_ixA 1 Try.underlying145 (by kernel_rfl) rfl rfl (by omega)) rfl ?_
    have hix : 0 + (i : Int).toNat * 1 = i := by omega
    have h0 : mix i (at1 k p 0 c) nils i = .slice (if i = k then p else none) 0 (if i = k then c else 0) := by rw [mix_at]; simp [at1]
    refine wl_rd (y_load 0 rfl rfl (v := .slice (if i = k then p else none) 0 (if i = k then c else 0)) (by rw [hix]; exact (wrow_nth _ _ _ _ (by omega)).trans (congrArg some h0)) (by kernel_rfl)) rfl ?_
    refine wl_pu (y_lenL Try.underlying144 rfl) rfl ?_
    refine wl_pu (y_move rfl) rfl ?_
    refine wl_nil ?_
    refine at_then ?_
    refine wc_block ?_
    -- at: loop
    refine wc_loop (σ := Unit) (fun _ => True) (fun _ => 0) (fun _ => [(0, ptr b 0), (5, .slice none 0 0), (6, int (i : Int)), (7, .slice none 0 0), (24, int (i : Int)), (33, int 0), (34, int 0)]) (fun _ => (b, whl (mix i (at1 k p 0 c) nils) (max now to) last) :: F) () trivial ⟨rfl, rfl, rfl, rfl, rfl, rfl, rfl, trivial⟩ rfl ?_
    intro _ _
    refine wc_seq ?_
    refine wc_region ?_
    refine wl_pu (y_lss rfl rfl) rfl ?_
    refine wl_nil ?_
    refine at_then ?_
    refine wc_seq ?_
    -- at: cond
    refine wc_condD rfl (fun hc => absurd hc ((by omega))) (fun _ => ?_)
    refine wc_exit ?_
    refine at_then_exit ?_
    refine at_then_exit ?_
    refine at_block_same ?_
    refine at_then ?_
    refine wc_region ?_
    refine wl_pu (y_move rfl) rfl ?_
    refine wl_pu (y_move rfl) rfl ?_
    refine wl_pu (y_move rfl) rfl ?_
    refine wl_pu (y_nil rfl) rfl ?_
    first | refine wl_pu (y_fieldAddr0 0 Try.underlying147 rfl rfl (by kernel_rfl) rfl) rfl ?_ | refine wl_pu (y_fieldAddr 0 Try.underlying147 rfl rfl (by kernel_rfl) rfl) rfl ?_
    refine wl_pu (y_ixA 1 Try.underlying145 (by kernel_rfl) rfl rfl (by omega)) rfl ?_
    refine wl_do0 (d_store 0 rfl rfl rfl (by rw [wrow_len, hix]; exact blt_of (by omega)) rfl (by kernel_rfl)) (fun _ _ hL => ?_)
    subst hL
    refine wl_heap ((b, whl (mix (i + 1) (at1 k p 0 c) nils) (max now to) last) :: F) ?_ ?_
    · exact congrArg (fun X => (b, row 147 X) :: F) (by rw [hix, wrow_set _ _ _ _ (by omega)]; exact congrArg (fun f => wrow f (max now to) last) (mix_set _ _ _ _ (nils_at _)))
    refine wl_nil ?_
    refine at_block_normal ?_
    refine at_then ?_
    refine wc_region ?_
    refine wl_pu (y_add rfl rfl (by omega)) rfl ?_
    refine wl_pu (y_move rfl) rfl ?_
    refine wl_nil ?_
    -- at: round
    exact at_again (i + 1) (by omega) (by omega) ⟨rfl, rfl, rfl, trivial⟩ rfl
  · skip
    have hi16 : i = 16 := by omega
    subst hi16
    refine wc_heap ((b, whl nils (max now to) last) :: F) (congrArg (fun X => (b, row 147 X) :: F) (mix_all _ _ _ _)) ?_
    refine wc_exit ?_
    refine at_then_exit ?_
    refine at_then_exit ?_
    refine at_block_same ?_
    refine at_then ?_
    refine wc_seq ?_
    refine wc_region ?_
    refine wl_pu (y_move rfl) rfl ?_
    -- at: op (call {callee:(value (func 70)), args:[t61, (func 71)], argTypes:[144, 158]})
    refine wl_do (d_call (by kernel_rfl) rfl (wsort_spec _ _ _ _ (by omega))) rfl ?_
    rintro _ _ rfl
    refine wl_nil ?_
    refine at_then ?_
    refine wc_seq ?_
    refine wc_region ?_
    refine wl_pu (y_assign rfl) rfl ?_
    refine wl_nil ?_
    refine at_then ?_
    refine wc_seq ?_
    refine wc_seq ?_
    refine wc_region ?_
    refine wl_pu (y_move rfl) rfl ?_
    refine wl_pu (y_lenL Try.underlying144 rfl) rfl ?_
    refine wl_pu (y_move rfl) rfl ?_
    refine wl_nil ?_
    refine at_then ?_
    refine wc_block ?_
    -- at: loop
    refine wc_loop (σ := Unit) (fun _ => True) (fun _ => 0) (fun _ => [(10, .slice none 0 0), (64, int 0), (65, int 0)]) (fun _ => (b, whl nils (max now to) last) :: F) () trivial ⟨rfl, rfl, rfl, trivial⟩ rfl ?_
    intro _ _
    refine wc_seq ?_
    refine wc_region ?_
    refine wl_pu (y_lss rfl rfl) rfl ?_
    refine wl_nil ?_
    refine at_then ?_
    refine wc_seq ?_
    -- at: cond
    refine wc_condD rfl (fun hc => absurd hc ((by omega))) (fun _ => ?_)
    refine wc_exit ?_
    refine at_then_exit ?_
    refine at_then_exit ?_
    refine at_block_same ?_
    refine at_then ?_
    refine wc_seq ?_
    refine wc_region ?_
    refine wl_pu (y_move rfl) rfl ?_
    refine wl_pu (y_assign rfl) rfl ?_
    refine wl_nil ?_
    refine at_then ?_
    refine wc_ret ?_
    -- at: ret
    refine at_ret1 rfl rfl ?_
    exact ⟨rfl, rfl⟩
end Go.Proofs.Ytkpndnjhfocheaa
