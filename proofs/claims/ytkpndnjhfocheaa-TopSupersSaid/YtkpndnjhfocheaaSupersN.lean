/- super.Works; a disk's two slots as superblocks are put on it; numbers out of a list. -/
import Derived.Test.YtkpndnjhfocheaaSupersM
import Derived.Test.YtkpndnjhfocheaaSupersQ
import Derived.Test.YtkpndnjhfocheaaRepA
namespace Go.Proofs.Ytkpndnjhfocheaa
open Go.SL
variable {X : Inhabited SL.Outside}

theorem nth_of_mem {L : Hp} {x : Nat × Obj} (h : x ∈ L) : ∃ i, nth L i = some x := by
  obtain ⟨i, hi⟩ := List.getElem?_of_mem h
  exact ⟨i, by rw [nth_eq]; exact hi⟩
/-- A slice of 16-bit numbers that can be read. -/
def U16s (L : Hp) (p : Option Addr) (len : Nat) : Prop := len = 0 ∨ ∃ b off cs T fz, p = some ⟨b, off, none⟩ ∧ (b, Obj.cells ⟨cs⟩ T fz) ∈ L ∧ ∀ j, j < len → ∃ u : Int, nth cs (off + j) = some (.int .u16 u) ∧ 0 ≤ u ∧ u ≤ 65535
theorem U16s.mono {L L' : Hp} {p : Option Addr} {len : Nat} (h : U16s L p len) (hs : ∀ x ∈ L, x ∈ L') : U16s L' p len := by
  rcases h with h | ⟨b, off, cs, T, fz, h1, h2, h3⟩
  · exact .inl h
  · exact .inr ⟨b, off, cs, T, fz, h1, hs _ h2, h3⟩
theorem share_spec (L : Hp) (p : Option Addr) (len cap : Nat) (i m : Int) (hU : U16s L p len) (hi : 0 ≤ i) (hm : 1 ≤ m ∧ m ≤ 1000) :
    Ctr Try.prog 10 [.slice p len cap, int i, int m] L (fun v L' => (∃ r : Int, v = int r ∧ 0 ≤ r ∧ r < m) ∧ L' = L) := by
  refine spec_body Try.func10 Try.ntmps10 rfl rfl ?_
  refine wc_seq ?_
  refine wc_region ?_
  refine wl_pu (y_assign rfl) rfl ?_
  refine wl_nil ?_
  refine at_then ?_
  refine wc_seq ?_
  refine wc_seq ?_
  refine wc_region ?_
  refine wl_pu (y_move rfl) rfl ?_
  refine wl_pu (y_move rfl) rfl ?_
  refine wl_pu (y_lenL Try.underlying27 rfl) rfl ?_
  refine wl_pu (y_lss rfl rfl) rfl ?_
  refine wl_nil ?_
  refine at_then ?_
  -- at: cond
  refine wc_condD rfl (fun h => ?_) (fun h => ?_)
  · skip
    rcases hU with hU | ⟨b, off, cs, T, fz, rfl, hmem, hcs⟩
    · omega
    obtain ⟨u, hu, hu0, hu1⟩ := hcs i.toNat (by omega)
    obtain ⟨q, hq⟩ := nth_of_mem hmem
    refine wc_seq ?_
    refine wc_region ?_
    refine wl_pu (y_move rfl) rfl ?_
    refine wl_pu (y_move rfl) rfl ?_
    first | refine wl_pu (y_ix1 Try.underlying27 (by kernel_rfl) rfl rfl (by omega)) rfl ?_ | refine wl_pu (y_ix 1 Try.underlying27 (by kernel_rfl) rfl rfl (by omega)) rfl ?_
    refine wl_rd (y_load q rfl hq (v := .int .u16 u) (by rw [Nat.mul_one]; exact hu) (by kernel_rfl)) rfl ?_
    first | refine wl_pu (y_conv Try.underlying22 Try.underlying3 rfl (IntWalk.i64_in _ (by omega))) rfl ?_ | refine wl_pu (y_conv Try.underlying22 Try.underlying3 rfl rfl) rfl ?_
    refine wl_pu (y_move rfl) rfl ?_
    refine wl_pu (y_rem rfl rfl (by omega)) rfl ?_
    refine wl_pu (y_assign rfl) rfl ?_
    refine wl_nil ?_
    refine at_then ?_
    refine wc_ret ?_
    refine at_then_ret ?_
    -- at: ret
    refine at_ret1 rfl rfl ?_
    have h1 := Int.emod_nonneg u (b := m) (by omega)
    have h2 := Int.emod_lt_of_pos u (b := m) (by omega)
    exact ⟨⟨_, rfl, h1, h2⟩, rfl⟩
  · skip
    refine wc_skip ?_
    refine at_then ?_
    refine wc_seq ?_
    refine wc_region ?_
    refine wl_pu (y_assign rfl) rfl ?_
    refine wl_nil ?_
    refine at_then ?_
    refine wc_ret ?_
    -- at: ret
    refine at_ret1 rfl rfl ?_
    exact ⟨⟨0, rfl, by omega, by omega⟩, rfl⟩

/-- How many of the first k are not in, or not alive. -/
def wouts (iv : Nat → Bool) (f : Nat → Int) : Nat → Nat
  | 0 => 0
  | m + 1 => wouts iv f m + (if iv m = true ∧ f m = 1 then 0 else 1)
theorem wouts_le (iv : Nat → Bool) (f : Nat → Int) (k : Nat) : wouts iv f k ≤ k := by
  induction k with
  | zero => exact Nat.le_refl _
  | succ k ih => simp only [wouts]; split <;> omega
theorem works_spec (F : Hp) (ar me lv mb rw ev ep : Int) (f : Nat → Int) (dk : Nat → Int) (iv : Nat → Bool) (h : SpOk ar me lv mb rw ev ep f) :
    Ctr Try.prog 38 [.agg ⟨mdc (spc ar me lv mb rw ev ep f 0) dk iv⟩] F (fun v L' => v = .bool (decide ((wouts iv f mb.toNat : Int) ≤ 1)) ∧ L' = F) := by
  have hmb : 2 ≤ mb ∧ mb ≤ 4 := by have := h.g.sh; omega
  refine spec_body Try.func38 Try.ntmps38 rfl rfl ?_
  refine wc_seq ?_
  refine wc_region ?_
  refine wl_do (d_box rfl) rfl ?_
  rintro _ _ ⟨bNEW, rfl, rfl⟩
  refine wl_pu (y_assign rfl) rfl ?_
  refine wl_nil ?_
  refine at_then ?_
  refine wc_seq ?_
  refine wc_seq ?_
  refine wc_region ?_
  first | refine wl_pu (y_fieldAddr0 0 Try.underlying86 rfl rfl (by kernel_rfl) rfl) rfl ?_ | refine wl_pu (y_fieldAddr 0 Try.underlying86 rfl rfl (by kernel_rfl) rfl) rfl ?_
  refine wl_heap ((bNEW, row 86 (mdc (spc ar me lv mb rw ev ep f 0) dk iv)) :: F) rfl ?_
  refine wl_rd (y_loadAgg (k := 12) (vs := spc ar me lv mb rw ev ep f 0) 0 rfl rfl rfl rfl (by kernel_rfl) (by kernel_rfl)) rfl ?_
  -- at: op (call {callee:(value (func 80)), args:[t6], argTypes:[80]})
  refine wl_do (d_call (by kernel_rfl) rfl (right_spec _ ar me lv mb rw ev ep f h)) rfl ?_
  rintro _ _ ⟨rfl, rfl⟩
  first | refine wl_pu (y_notT rfl) rfl ?_ | refine wl_pu (y_notF rfl) rfl ?_ | refine wl_pu (y_not rfl) rfl ?_ | refine wl_pu (y_notB rfl) rfl ?_
  refine wl_nil ?_
  refine at_then ?_
  -- at: cond
  refine wc_condF rfl ?_
  refine wc_skip ?_
  refine at_then ?_
  refine wc_seq ?_
  refine wc_region ?_
  refine wl_pu (y_assign rfl) rfl ?_
  refine wl_nil ?_
  refine at_then ?_
  refine wc_seq ?_
  refine wc_seq ?_
  refine wc_region ?_
  first | refine wl_pu (y_fieldAddr0 0 Try.underlying86 rfl rfl (by kernel_rfl) rfl) rfl ?_ | refine wl_pu (y_fieldAddr 0 Try.underlying86 rfl rfl (by kernel_rfl) rfl) rfl ?_
  first | refine wl_pu (y_fieldAddr0 2 Try.underlying80 rfl rfl (by kernel_rfl) rfl) rfl ?_ | refine wl_pu (y_fieldAddr 2 Try.underlying80 rfl rfl (by kernel_rfl) rfl) rfl ?_
  first | refine wl_pu (y_fieldAddr0 1 Try.underlying72 rfl rfl (by kernel_rfl) rfl) rfl ?_ | refine wl_pu (y_fieldAddr 1 Try.underlying72 rfl rfl (by kernel_rfl) rfl) rfl ?_
  first | refine wl_rd (y_load 0 rfl rfl rfl (by kernel_rfl)) rfl ?_ | refine wl_rd (y_load 1 rfl rfl rfl (by kernel_rfl)) rfl ?_ | refine wl_rd (y_load 2 rfl rfl rfl (by kernel_rfl)) rfl ?_ | refine wl_rd (y_load 3 rfl rfl rfl (by kernel_rfl)) rfl ?_ | refine wl_rd (y_load 4 rfl rfl rfl (by kernel_rfl)) rfl ?_ | refine wl_rd (y_load 5 rfl rfl rfl (by kernel_rfl)) rfl ?_
  refine wl_pu (y_move rfl) rfl ?_
  refine wl_nil ?_
  refine at_then ?_
  refine wc_block ?_
  -- at: loop
  refine wc_loop (σ := Nat) (fun i => (i : Int) ≤ mb) (fun i => 4 - i) (fun i => [(1, ptr bNEW 0), (3, int (wouts iv f i : Int)), (12, int mb), (13, int (i : Int))]) (fun _ => (bNEW, row 86 (mdc (spc ar me lv mb rw ev ep f 0) dk iv)) :: F) 0 (by show (0 : Int) ≤ mb; omega) ⟨rfl, rfl, rfl, rfl, trivial⟩ rfl ?_
  intro i hi
  have hwl := wouts_le iv f i
  have hws : wouts iv f (i + 1) = wouts iv f i + (if iv i = true ∧ f i = 1 then 0 else 1) := rfl
  show WC _ _ _ _ [(1, ptr bNEW 0), (3, int (wouts iv f i : Int)), (12, int mb), (13, int (i : Int))] _
  refine wc_seq ?_
  refine wc_region ?_
  refine wl_pu (y_lss rfl rfl) rfl ?_
  refine wl_nil ?_
  refine at_then ?_
  refine wc_seq ?_
  -- at: cond
  refine wc_condD rfl (fun him => ?_) (fun him => ?_)
  · skip
    have hi4 : i < 4 := by omega
    refine wc_skip ?_
    refine at_then ?_
    refine wc_seq ?_
    refine wc_block ?_
    refine wc_seq ?_
    refine wc_region ?_
    refine wl_pu (y_move rfl) rfl ?_
    refine wl_pu (y_assign rfl) rfl ?_
    refine wl_nil ?_
    refine at_then ?_
    refine wc_seq ?_
    refine wc_region ?_
    refine wl_pu (y_move rfl) rfl ?_
    first | refine wl_pu (y_fieldAddr0 16 Try.underlying86 rfl rfl (by kernel_rfl) rfl) rfl ?_ | refine wl_pu (y_fieldAddr 16 Try.underlying86 rfl rfl (by kernel_rfl) rfl) rfl ?_
    refine wl_pu (y_ixA 1 Try.underlying84 (by kernel_rfl) rfl rfl (by omega)) rfl ?_
    refine wl_rd (y_load 0 rfl rfl (v := .bool (iv i)) (by rw [show (0 + 16 + (i : Int).toNat * 1) = 16 + i by omega]; exact mdc_iv _ rfl _ _ _ hi4) (by kernel_rfl)) rfl ?_
    refine wl_pu (y_notB rfl) rfl ?_
    refine wl_pu (y_move rfl) rfl ?_
    -- at: guard 5
    cases hiv : iv i with
    | false =>
      rw [hiv, if_neg (by intro hc; cases hc.1)] at hws
      refine wl_goff rfl rfl rfl rfl ?_
      refine wl_goff rfl rfl rfl rfl ?_
      refine wl_goff rfl rfl rfl rfl ?_
      refine wl_goff rfl rfl rfl rfl ?_
      refine wl_goff rfl rfl rfl rfl ?_
      refine wl_goff rfl rfl rfl rfl ?_
      first | refine wl_pu (y_pickT rfl rfl) rfl ?_ | refine wl_pu (y_pickF rfl rfl) rfl ?_
      refine wl_nil ?_
      refine at_then ?_
      -- at: cond
      refine wc_condT rfl ?_
      refine wc_region ?_
      refine wl_pu (y_move rfl) rfl ?_
      refine wl_pu (y_add rfl rfl (by omega)) rfl ?_
      refine wl_pu (y_assign rfl) rfl ?_
      refine wl_nil ?_
      refine at_block_normal ?_
      refine at_then ?_
      refine wc_region ?_
      refine wl_pu (y_add rfl rfl (by omega)) rfl ?_
      refine wl_pu (y_move rfl) rfl ?_
      refine wl_nil ?_
      -- at: round
      exact at_again (i + 1) (by omega) (by omega) ⟨rfl, by simp only [SL.lk]; rw [hws]; rfl, rfl, rfl, trivial⟩ rfl
    | true =>
      rw [hiv] at hws
      refine wl_gon rfl rfl ?_
      refine wl_pu (y_move rfl) rfl ?_
      refine wl_gon rfl rfl ?_
      first | refine wl_pu (y_fieldAddr0 0 Try.underlying86 rfl rfl (by kernel_rfl) rfl) rfl ?_ | refine wl_pu (y_fieldAddr 0 Try.underlying86 rfl rfl (by kernel_rfl) rfl) rfl ?_
      refine wl_gon rfl rfl ?_
      first | refine wl_pu (y_fieldAddr0 7 Try.underlying80 rfl rfl (by kernel_rfl) rfl) rfl ?_ | refine wl_pu (y_fieldAddr 7 Try.underlying80 rfl rfl (by kernel_rfl) rfl) rfl ?_
      refine wl_gon rfl rfl ?_
      refine wl_pu (y_ixA 1 Try.underlying78 (by kernel_rfl) rfl rfl (by omega)) rfl ?_
      refine wl_gon rfl rfl ?_
      refine wl_rd (y_load 0 rfl rfl (v := int (f i)) (by rw [Int.toNat_natCast]; rcases i with _|_|_|_|i <;> first | rfl | omega) (by kernel_rfl)) rfl ?_
      refine wl_gon rfl rfl ?_
      refine wl_pu (y_neq rfl rfl) rfl ?_
      first | refine wl_pu (y_pickT rfl rfl) rfl ?_ | refine wl_pu (y_pickF rfl rfl) rfl ?_
      refine wl_nil ?_
      refine at_then ?_
      -- at: cond
      refine wc_condD rfl (fun hf => ?_) (fun hf => ?_)
      · skip
        rw [if_neg (fun hc => hf hc.2)] at hws
        refine wc_region ?_
        refine wl_pu (y_move rfl) rfl ?_
        refine wl_pu (y_add rfl rfl (by omega)) rfl ?_
        refine wl_pu (y_assign rfl) rfl ?_
        refine wl_nil ?_
        refine at_block_normal ?_
        refine at_then ?_
        refine wc_region ?_
        refine wl_pu (y_add rfl rfl (by omega)) rfl ?_
        refine wl_pu (y_move rfl) rfl ?_
        refine wl_nil ?_
        -- at: round
        exact at_again (i + 1) (by omega) (by omega) ⟨rfl, by simp only [SL.lk]; rw [hws]; rfl, rfl, rfl, trivial⟩ rfl
      · skip
        rw [if_pos ⟨rfl, Decidable.not_not.1 hf⟩] at hws
        refine wc_skip ?_
        refine at_block_normal ?_
        refine at_then ?_
        refine wc_region ?_
        refine wl_pu (y_add rfl rfl (by omega)) rfl ?_
        refine wl_pu (y_move rfl) rfl ?_
        refine wl_nil ?_
        -- at: round
        exact at_again (i + 1) (by omega) (by omega) ⟨rfl, by simp only [SL.lk]; rw [hws]; rfl, rfl, rfl, trivial⟩ rfl
  · skip
    have hie : mb.toNat = i := by omega
    refine wc_exit ?_
    refine at_then_exit ?_
    refine at_then_exit ?_
    refine at_block_same ?_
    refine at_then ?_
    refine wc_seq ?_
    refine wc_region ?_
    refine wl_pu (y_move rfl) rfl ?_
    refine wl_pu (y_leq rfl rfl) rfl ?_
    refine wl_pu (y_assign rfl) rfl ?_
    refine wl_nil ?_
    refine at_then ?_
    refine wc_ret ?_
    -- at: ret
    refine at_drop ?_
    refine at_ret1 rfl rfl ?_
    exact ⟨by rw [hie], rfl⟩
end Go.Proofs.Ytkpndnjhfocheaa
