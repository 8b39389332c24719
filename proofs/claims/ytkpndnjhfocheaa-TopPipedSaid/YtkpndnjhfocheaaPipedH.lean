/- rbuf.New, strings.HasPrefix, the shares: what each call comes to. -/
import Derived.Test.YtkpndnjhfocheaaPipedC
import Derived.Test.YtkpndnjhfocheaaSLh
namespace Go.Proofs.Ytkpndnjhfocheaa
open Go.SL
variable {X : Inhabited SL.Outside}

theorem rnew_spec (L : Hp) (start : Int) : Ctr Try.prog 14 [.int .u32 start, int 32] L (fun v L' => ∃ b bd bh, v = .tuple #[ptr b 0, int 0] ∧
    L' = (b, rbo 32 start (.slice none 0 0) bd bh 0) :: (bd, row 5 (B8 (List.replicate 32 0))) :: (bh, row 4 (bs (List.replicate 32 false))) :: L) := by
  refine spec_body Try.func14 Try.ntmps14 rfl rfl ?_
  refine wc_seq ?_
  refine wc_region ?_
  refine wl_pu (y_assign rfl) rfl ?_
  refine wl_pu (y_assign rfl) rfl ?_
  refine wl_nil ?_
  refine at_then ?_
  refine wc_seq ?_
  refine wc_seq ?_
  refine wc_region ?_
  refine wl_pu (y_move rfl) rfl ?_
  refine wl_pu (y_lss rfl rfl) rfl ?_
  refine wl_pu (y_move rfl) rfl ?_
  -- at: guard 2
  refine wl_splitD 8 rfl (fun hc => absurd hc ((by omega))) (fun _ => ?_)
  refine wl_gon rfl rfl ?_
  refine wl_pu (y_move rfl) rfl ?_
  refine wl_gon rfl rfl ?_
  refine wl_pu (y_gtr rfl rfl) rfl ?_
  first | refine wl_pu (y_pickT rfl rfl) rfl ?_ | refine wl_pu (y_pickF rfl rfl) rfl ?_
  refine wl_nil ?_
  refine at_then ?_
  -- at: cond
  refine wc_condD rfl (fun hc => absurd hc ((by omega))) (fun _ => ?_)
  refine wc_skip ?_
  refine at_then ?_
  refine wc_seq ?_
  -- at: draw
  apply wc_draw 6 (pl := [_, _, _, _, _, _]) (by kernel_rfl)
  rotate_left
  refine hw_pu (y_move rfl) ?_
  refine hw_pu (y_move rfl) ?_
  refine hw_pu (y_move rfl) ?_
  refine hw_make (z := .int .u8 0) (by_ := 1) Try.underlying24 (zeroB_of (by kernel_rfl)) (by kernel_rfl) rfl (by kernel_rfl) rfl rfl (by omega) ?_
  intro g1
  refine hw_pu (y_move rfl) ?_
  refine hw_make (z := .bool false) (by_ := 1) Try.underlying139 (zeroB_of (by kernel_rfl)) (by kernel_rfl) rfl (by kernel_rfl) rfl rfl (by omega) ?_
  intro g2
  -- at: hw_end with new blocks
  refine hw_end2G4 rfl (fun h => by injection h with _ h2; exact absurd h2 (by decide)) ?_
  case hB => kernel_rfl
  rintro b1 b2 rfl rfl
  refine wl_pu (y_build [int 32, .int .u32 start, .slice none 0 0, sl b1 0 32 32, sl b2 0 32 32, int 0] rfl (by kernel_rfl)) rfl ?_
  refine wl_do (d_box rfl) rfl ?_
  rintro _ _ ⟨bNEW, rfl, rfl⟩
  refine wl_pu (y_assign rfl) rfl ?_
  refine wl_pu (y_assign rfl) rfl ?_
  refine wl_nil ?_
  refine at_nq ?_
  refine at_then ?_
  refine wc_ret ?_
  -- at: ret
  refine at_heap ((bNEW, rbo 32 start (.slice none 0 0) b1 b2 0) :: (b2, row 4 (bs (List.replicate 32 false))) :: (b1, row 5 (B8 (List.replicate 32 0))) :: L) rfl ?_
  refine at_perm (p1.cons _) ?_
  refine at_ret2 rfl rfl rfl ?_
  exact ⟨_, _, _, rfl, rfl⟩

theorem hasp1_spec (L : Hp) (s t : List UInt8) : Ctr Try.prog 74 [S s, S t] L (fun v L' => v = .bool (decide (t <+: s)) ∧ L' = L) := by
  refine spec_body Try.func74 Try.ntmps74 rfl rfl ?_
  refine wc_seq ?_
  refine wc_region ?_
  refine wl_pu (y_assign rfl) rfl ?_
  refine wl_nil ?_
  refine at_then ?_
  refine wc_seq ?_
  refine wc_region ?_
  refine wl_pu (y_move rfl) rfl ?_
  refine wl_pu (y_lenS Try.underlying9 rfl) rfl ?_
  refine wl_pu (y_move rfl) rfl ?_
  refine wl_pu (y_lenS Try.underlying9 rfl) rfl ?_
  refine wl_pu (y_geq rfl rfl) rfl ?_
  refine wl_pu (y_move rfl) rfl ?_
  -- at: guard 5
  refine wl_splitD 10 rfl (fun h => ?_) (fun h => ?_)
  · skip
    refine wl_gon rfl rfl ?_
    refine wl_pu (y_move rfl) rfl ?_
    refine wl_gon rfl rfl ?_
    refine wl_pu (y_move rfl) rfl ?_
    refine wl_gon rfl rfl ?_
    refine wl_pu (y_lenS Try.underlying9 rfl) rfl ?_
    refine wl_gon rfl rfl ?_
    refine wl_pu (y_toS Try.underlying9 rfl rfl (by omega)) rfl ?_
    refine wl_gon rfl rfl ?_
    refine wl_pu (y_move rfl) rfl ?_
    refine wl_gon rfl rfl ?_
    refine wl_pu (y_eqS rfl rfl) rfl ?_
    first | refine wl_pu (y_pickT rfl rfl) rfl ?_ | refine wl_pu (y_pickF rfl rfl) rfl ?_
    refine wl_pu (y_assign rfl) rfl ?_
    refine wl_nil ?_
    refine at_then ?_
    refine wc_ret ?_
    -- at: ret
    refine at_ret1 rfl rfl ?_
    refine ⟨congrArg Value.bool (decide_eq_decide.2 ?_), rfl⟩
    rw [Int.toNat_natCast, List.prefix_iff_eq_take]
    exact eq_comm
  · skip
    refine wl_goff rfl rfl rfl rfl ?_
    refine wl_goff rfl rfl rfl rfl ?_
    refine wl_goff rfl rfl rfl rfl ?_
    refine wl_goff rfl rfl rfl rfl ?_
    refine wl_goff rfl rfl rfl rfl ?_
    refine wl_goff rfl rfl rfl rfl ?_
    first | refine wl_pu (y_pickT rfl rfl) rfl ?_ | refine wl_pu (y_pickF rfl rfl) rfl ?_
    refine wl_pu (y_assign rfl) rfl ?_
    refine wl_nil ?_
    refine at_then ?_
    refine wc_ret ?_
    -- at: ret
    refine at_ret1 rfl rfl ?_
    refine ⟨congrArg Value.bool ?_, rfl⟩
    symm
    rw [decide_eq_false_iff_not]
    intro hp
    have := hp.length_le
    omega

theorem hasp_spec (L : Hp) (s t : List UInt8) : Ctr Try.prog 31 [S s, S t] L (fun v L' => v = .bool (decide (t <+: s)) ∧ L' = L) := by
  refine spec_body Try.func31 Try.ntmps31 rfl rfl ?_
  refine wc_seq ?_
  refine wc_region ?_
  refine wl_pu (y_assign rfl) rfl ?_
  refine wl_nil ?_
  refine at_then ?_
  refine wc_seq ?_
  refine wc_region ?_
  refine wl_pu (y_move rfl) rfl ?_
  refine wl_pu (y_move rfl) rfl ?_
  -- at: op (call {callee:(value (func 74)), args:[t5, t6], argTypes:[9, 9]})
  refine wl_do (d_call (by kernel_rfl) rfl (hasp1_spec _ _ _)) rfl ?_
  rintro _ _ ⟨rfl, rfl⟩
  refine wl_pu (y_assign rfl) rfl ?_
  refine wl_nil ?_
  refine at_then ?_
  refine wc_ret ?_
  -- at: ret
  refine at_ret1 rfl rfl ?_
  exact ⟨rfl, rfl⟩

theorem nth_of_mem {L : Hp} {x : Nat × Obj} (h : x ∈ L) : ∃ i, nth L i = some x := by
  obtain ⟨i, hi⟩ := List.getElem?_of_mem h
  exact ⟨i, by rw [nth_eq]; exact hi⟩
/-- A slice of 16-bit numbers that can be read. -/
def U16s (L : Hp) (p : Option Addr) (len : Nat) : Prop := len = 0 ∨ ∃ b off cs T fz, p = some ⟨b, off, none⟩ ∧ (b, Obj.cells ⟨cs⟩ T fz) ∈ L ∧ ∀ j, j < len → ∃ u : Int, nth cs (off + j) = some (.int .u16 u) ∧ 0 ≤ u ∧ u ≤ 65535
theorem U16s.mono {L L' : Hp} {p : Option Addr} {len : Nat} (h : U16s L p len) (hs : ∀ x ∈ L, x ∈ L') : U16s L' p len := by
  rcases h with h | ⟨b, off, cs, T, fz, h1, h2, h3⟩
  · exact .inl h
  · exact .inr ⟨b, off, cs, T, fz, h1, hs _ h2, h3⟩

theorem share_spec (L : Hp) (p : Option Addr) (len cap : Nat) (i m : Int) (hU : U16s L p len) (hi : 0 ≤ i) (hm : 1 ≤ m ∧ m ≤ 1000) :
    Ctr Try.prog 10 [.slice p len cap, int i, int m] L (fun v L' => (∃ r : Int, v = int r ∧ 0 ≤ r ∧ r < m) ∧ L' = L) := by
  refine spec_body Try.func10 Try.ntmps10 rfl rfl ?_
  refine wc_seq ?_
  refine wc_region ?_
  refine wl_pu (y_assign rfl) rfl ?_
  refine wl_nil ?_
  refine at_then ?_
  refine wc_seq ?_
  refine wc_seq ?_
  refine wc_region ?_
  refine wl_pu (y_move rfl) rfl ?_
  refine wl_pu (y_move rfl) rfl ?_
  refine wl_pu (y_lenL Try.underlying27 rfl) rfl ?_
  refine wl_pu (y_lss rfl rfl) rfl ?_
  refine wl_nil ?_
  refine at_then ?_
  -- at: cond
  refine wc_condD rfl (fun h => ?_) (fun h => ?_)
  · skip
    rcases hU with hU | ⟨b, off, cs, T, fz, rfl, hmem, hcs⟩
    · omega
    obtain ⟨u, hu, hu0, hu1⟩ := hcs i.toNat (by omega)
    obtain ⟨q, hq⟩ := nth_of_mem hmem
    refine wc_seq ?_
    refine wc_region ?_
    refine wl_pu (y_move rfl) rfl ?_
    refine wl_pu (y_move rfl) rfl ?_
    first | refine wl_pu (y_ix1 Try.underlying27 (by kernel_rfl) rfl rfl (by omega)) rfl ?_ | refine wl_pu (y_ix 1 Try.underlying27 (by kernel_rfl) rfl rfl (by omega)) rfl ?_
    refine wl_rd (y_load q rfl hq (v := .int .u16 u) (by rw [Nat.mul_one]; exact hu) (by kernel_rfl)) rfl ?_
    first | refine wl_pu (y_conv Try.underlying22 Try.underlying3 rfl (IntWalk.i64_in _ (by omega))) rfl ?_ | refine wl_pu (y_conv Try.underlying22 Try.underlying3 rfl rfl) rfl ?_
    refine wl_pu (y_move rfl) rfl ?_
    refine wl_pu (y_rem rfl rfl (by omega)) rfl ?_
    refine wl_pu (y_assign rfl) rfl ?_
    refine wl_nil ?_
    refine at_then ?_
    refine wc_ret ?_
    refine at_then_ret ?_
    -- at: ret
    refine at_ret1 rfl rfl ?_
    have h1 := Int.emod_nonneg u (b := m) (by omega)
    have h2 := Int.emod_lt_of_pos u (b := m) (by omega)
    exact ⟨⟨_, rfl, h1, h2⟩, rfl⟩
  · skip
    refine wc_skip ?_
    refine at_then ?_
    refine wc_seq ?_
    refine wc_region ?_
    refine wl_pu (y_assign rfl) rfl ?_
    refine wl_nil ?_
    refine at_then ?_
    refine wc_ret ?_
    -- at: ret
    refine at_ret1 rfl rfl ?_
    exact ⟨⟨0, rfl, by omega, by omega⟩, rfl⟩
end Go.Proofs.Ytkpndnjhfocheaa
