/- super.counts: what it comes to: its parts. -/
import Derived.Test.YtkpndnjhfocheaaSupersI
import Derived.Test.YtkpndnjhfocheaaSeqsC
import Derived.Test.YtkpndnjhfocheaaSLo
namespace Go.Proofs.Ytkpndnjhfocheaa
open Go.SL
variable {X : Inhabited SL.Outside}

/-! equal shapes, equal superblocks -/
theorem eq72 (w : World) (d : Nat) (a b c a' b' c' : Int) : (Op.equalIn (d + 2) 72 (.agg #[int a, int b, int c]) (.agg #[int a', int b', int c'])).run Try.prog w = .ok (decide (a = a' ∧ b = b' ∧ c = c')) w := by
  rw [run_equalIn_struct w (d + 1) 72 _ _ (by kernel_rfl) (by kernel_rfl)]
  simp only [Program.fieldsOf, Try.underlying72]
  refine (eqF_int (a := a) (b := a') (by decide) (by exact Try.underlying3) (by rfl) (by rfl)).trans ?_
  by_cases h1 : a = a'
  · rw [if_pos h1]
    refine (eqF_int (a := b) (b := b') (by decide) (by exact Try.underlying3) (by rfl) (by rfl)).trans ?_
    by_cases h2 : b = b'
    · rw [if_pos h2]
      refine (eqF_int (a := c) (b := c') (by decide) (by exact Try.underlying3) (by rfl) (by rfl)).trans ?_
      by_cases h3 : c = c' <;> simp [h1, h2, h3, Op.eqFields]
    · simp [h2]
  · simp [h1]
theorem eq78 (w : World) (d : Nat) (a b c e a' b' c' e' : Int) : (Op.equalIn (d + 2) 78 (.agg #[int a, int b, int c, int e]) (.agg #[int a', int b', int c', int e'])).run Try.prog w = .ok (decide (a = a' ∧ b = b' ∧ c = c' ∧ e = e')) w := by
  obtain ⟨i, hi⟩ : ∃ i, Try.prog.info? 3 = some i := Option.isSome_iff_exists.1 (by kernel_rfl)
  rw [run_equalIn_array w (d + 1) _ _ Try.underlying78 hi, show Try.prog.cellsOf 3 = 1 by kernel_rfl, show List.range 4 = [0, 1, 2, 3] from rfl]
  refine (eqI_int (a := a) (b := a') (by exact Try.underlying3) (by rfl) (by rfl)).trans ?_
  by_cases h1 : a = a'
  · rw [if_pos h1]
    refine (eqI_int (a := b) (b := b') (by exact Try.underlying3) (by rfl) (by rfl)).trans ?_
    by_cases h2 : b = b'
    · rw [if_pos h2]
      refine (eqI_int (a := c) (b := c') (by exact Try.underlying3) (by rfl) (by rfl)).trans ?_
      by_cases h3 : c = c'
      · rw [if_pos h3]
        refine (eqI_int (a := e) (b := e') (by exact Try.underlying3) (by rfl) (by rfl)).trans ?_
        by_cases h4 : e = e' <;> simp [h1, h2, h3, h4, Op.eqItems]
      · simp [h3]
    · simp [h2]
  · simp [h1]

abbrev κ80 (l : List Int) : Value := .agg ⟨l.map int⟩
def ok80 (l : List Int) : Prop := l.length = 12
abbrev spk (ar me lv mb rw ev ep : Int) (f : Nat → Int) (ck : Int) : List Int := [ar, me, lv, mb, rw, ev, ep, f 0, f 1, f 2, f 3, ck]

theorem part72 (w : World) (cs : Array Value)  : (part 72 cs 2).run Try.prog w = .ok (.agg (cs.extract 2 5)) w := by
  simp [part, run_isAgg_yes (P := Try.prog) (T := 72) (by kernel_rfl), SL.run_sizeOf (P := Try.prog) (T := 72) (k := 3) (by kernel_rfl)]
theorem part78 (w : World) (cs : Array Value)  : (part 78 cs 7).run Try.prog w = .ok (.agg (cs.extract 7 11)) w := by
  simp [part, run_isAgg_yes (P := Try.prog) (T := 78) (by kernel_rfl), SL.run_sizeOf (P := Try.prog) (T := 78) (k := 4) (by kernel_rfl)]
theorem eq80 (w : World) (a b : List Int) (ha : ok80 a) (hb : ok80 b) : (Op.equal 80 (κ80 a) (κ80 b)).run Try.prog w = .ok (decide (a = b)) w := by
  match a, ha with
  | [a0, a1, a2, a3, a4, a5, a6, a7, a8, a9, a10, a11], _ =>
  match b, hb with
  | [b0, b1, b2, b3, b4, b5, b6, b7, b8, b9, b10, b11], _ =>
  show (Op.equalIn (9999 + 1) 80 _ _).run Try.prog w = _
  rw [run_equalIn_struct w 9999 80 _ _ (by kernel_rfl) (by kernel_rfl)]
  simp only [Program.fieldsOf, Try.underlying80]
  have hg := eq72 w 9997 a2 a3 a4 b2 b3 b4
  have hs := eq78 w 9997 a7 a8 a9 a10 b7 b8 b9 b10
  generalize hp : decide (a2 = b2 ∧ a3 = b3 ∧ a4 = b4) = p at hg
  generalize hq : decide (a7 = b7 ∧ a8 = b8 ∧ a9 = b9 ∧ a10 = b10) = q at hs
  refine (eqF_int (a := a0) (b := b0) (by decide) (by exact Try.underlying3) (by rfl) (by rfl)).trans ?_
  by_cases h0 : a0 = b0
  · rw [if_pos h0]
    refine (eqF_int (a := a1) (b := b1) (by decide) (by exact Try.underlying3) (by rfl) (by rfl)).trans ?_
    by_cases h1 : a1 = b1
    · rw [if_pos h1]
      refine (eqF_agg (by decide) (by exact part72 w _) (by exact part72 w _) (by exact hg)).trans ?_
      cases p with
      | true =>
        obtain ⟨g1, g2, g3⟩ := of_decide_eq_true hp
        rw [if_pos rfl]
        refine (eqF_int (a := a5) (b := b5) (by decide) (by exact Try.underlying3) (by rfl) (by rfl)).trans ?_
        by_cases h5 : a5 = b5
        · rw [if_pos h5]
          refine (eqF_int (a := a6) (b := b6) (by decide) (by exact Try.underlying3) (by rfl) (by rfl)).trans ?_
          by_cases h6 : a6 = b6
          · rw [if_pos h6]
            refine (eqF_agg (by decide) (by exact part78 w _) (by exact part78 w _) (by exact hs)).trans ?_
            cases q with
            | true =>
              obtain ⟨s1, s2, s3, s4⟩ := of_decide_eq_true hq
              rw [if_pos rfl]
              refine (eqF_int (a := a11) (b := b11) (by decide) (by exact Try.underlying3) (by rfl) (by rfl)).trans ?_
              by_cases h8 : a11 = b11 <;> simp [h0, h1, g1, g2, g3, h5, h6, s1, s2, s3, s4, h8, Op.eqFields]
            | false =>
              have := of_decide_eq_false hq
              rw [decide_eq_false (by intro hc; simp only [List.cons.injEq] at hc; exact this ⟨hc.2.2.2.2.2.2.2.1, hc.2.2.2.2.2.2.2.2.1, hc.2.2.2.2.2.2.2.2.2.1, hc.2.2.2.2.2.2.2.2.2.2.1⟩)]
              simp
          · simp [h6]
        · simp [h5]
      | false =>
        have := of_decide_eq_false hp
        rw [decide_eq_false (by intro hc; simp only [List.cons.injEq] at hc; exact this ⟨hc.2.2.1, hc.2.2.2.1, hc.2.2.2.2.1⟩)]
        simp
    · simp [h1]
  · simp [h0]
end Go.Proofs.Ytkpndnjhfocheaa
