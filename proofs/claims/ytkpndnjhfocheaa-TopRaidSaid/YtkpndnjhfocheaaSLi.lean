/- Laws of bits, in the frame logic. -/
import Derived.Test.YtkpndnjhfocheaaSLh
namespace Go.SL
section
variable {P : Program} {n : Nat} {E : Env} {L : Hp} {ty T T' : TypeId} {x y : Operand}

/-- A test that was passed over lets nothing run. -/
theorem wl_goffU {X : Inhabited Outside} {Q : Exit → Act → World → Prop} {ops rest : List Oper} {op : Op} {pos : String} {aft : Array Edge} {d j t : Nat} {c : Bool} (hj : dstAt ops j = some t) (hb : lk E t = some undef) (hd : Nat.blt d n = true)
    (h : WL P ops Q n rest ((d, undef) :: E) L) : WL P ops Q n (⟨some d, op, ty, pos, aft, some (j, c)⟩ :: rest) E L := by
  intro a w hF hO
  have hy : yielded ops.toArray a.tmps j = none := by
    unfold yielded
    rw [← dstAt_eq, hj]
    simp [hF.slot t _ hb, undef]
  have hne : ((none : Option Bool) == some c) = false := by cases c <;> rfl
  simp only [wpList, Region.wanted, hy, hne]
  exact h _ _ (hF.put hd _) hO
/-- a[i] of an array that is a value, its elements of one cell. -/
theorem y_ixAgg {e : TypeId} {k : IntKind} {j : Int} {len : Nat} {cs : List Value} {v : Value} (hu : P.underlying T = some (.array len e)) (hz : szB P e 1 = true) (hs : scal P e = true) (hx : ev E x = some (.agg ⟨cs⟩)) (hy : ev E y = some (.int k j)) (hb : 0 ≤ j ∧ j < len) (hv : nth cs j.toNat = some v) : Pu P n E (.index T x y) ty v := fun _ _ _ _ a hF w => by
  rw [nth_eq] at hv
  simp only [execOp, hF.ev hx, hF.ev hy]
  simp [Instr.index, asIntOf, run_underlying hu, hb, run_sizeOf hz, part, run_isAgg_no hs, hv]
theorem wrap_lt {k : IntKind} {r : Nat} (h : (r : Int) ≤ k.max) : k.wrap (r : Int) = r := by
  cases k <;> simp [IntKind.wrap, IntKind.bits, IntKind.signed, IntKind.max] at h ⊢ <;> omega
/-- The bits of a number that is not negative. -/
def top (k : IntKind) : Nat := if k.signed then k.bits - 1 else k.bits
theorem le_max {k : IntKind} {r : Nat} (h : r < 2 ^ top k) : (r : Int) ≤ k.max := by
  cases k <;> simp [top, IntKind.bits, IntKind.signed, IntKind.max] at h ⊢ <;> omega
theorem lt_bits {k : IntKind} {r : Nat} (h : r < 2 ^ top k) : r < 2 ^ k.bits := by
  cases k <;> simp [top, IntKind.bits, IntKind.signed] at h ⊢ <;> omega
theorem y_bits {op : BinOp} {k : IntKind} {v : Value} {a b : Nat} (hx : ev E x = some (.int k (a : Int))) (hy : ev E y = some (.int k (b : Int)))
    (hr : Op.intBits op k a b = pure v) (hop : op = .and ∨ op = .or ∨ op = .xor) : Pu P n E (.binOp op T x y T') ty v := fun _ _ _ _ c hF w => by
  simp only [execOp, hF.ev hx, hF.ev hy]
  have h : (do eqGuard op T x y (.int k (a : Int)) (.int k (b : Int)); binOp op T (.int k (a : Int)) (.int k (b : Int))) = Op.intBits op k a b := by
    rcases hop with rfl | rfl | rfl <;> cases k <;> rfl
  rw [h, hr]; rfl
theorem y_and {k : IntKind} (a b : Nat) (hx : ev E x = some (.int k (a : Int))) (hy : ev E y = some (.int k (b : Int))) (ha : a < 2 ^ top k) (hb : b < 2 ^ top k) : Pu P n E (.binOp .and T x y T') ty (.int k ((a &&& b : Nat) : Int)) :=
  y_bits hx hy (by
    have h : a &&& b < 2 ^ top k := Nat.and_lt_two_pow a hb
    simp only [Op.intBits, BitVec.ofInt_natCast, BitVec.toNat_and, BitVec.toNat_ofNat, Nat.mod_eq_of_lt (lt_bits ha), Nat.mod_eq_of_lt (lt_bits hb), wrap_lt (le_max h)]) (.inl rfl)
theorem y_or {k : IntKind} (a b : Nat) (hx : ev E x = some (.int k (a : Int))) (hy : ev E y = some (.int k (b : Int))) (ha : a < 2 ^ top k) (hb : b < 2 ^ top k) : Pu P n E (.binOp .or T x y T') ty (.int k ((a ||| b : Nat) : Int)) :=
  y_bits hx hy (by
    have h : a ||| b < 2 ^ top k := Nat.or_lt_two_pow ha hb
    simp only [Op.intBits, BitVec.ofInt_natCast, BitVec.toNat_or, BitVec.toNat_ofNat, Nat.mod_eq_of_lt (lt_bits ha), Nat.mod_eq_of_lt (lt_bits hb), wrap_lt (le_max h)]) (.inr (.inl rfl))
theorem y_xor {k : IntKind} (a b : Nat) (hx : ev E x = some (.int k (a : Int))) (hy : ev E y = some (.int k (b : Int))) (ha : a < 2 ^ top k) (hb : b < 2 ^ top k) : Pu P n E (.binOp .xor T x y T') ty (.int k ((a ^^^ b : Nat) : Int)) :=
  y_bits hx hy (by
    have h : a ^^^ b < 2 ^ top k := Nat.xor_lt_two_pow ha hb
    simp only [Op.intBits, BitVec.ofInt_natCast, BitVec.toNat_xor, BitVec.toNat_ofNat, Nat.mod_eq_of_lt (lt_bits ha), Nat.mod_eq_of_lt (lt_bits hb), wrap_lt (le_max h)]) (.inr (.inr rfl))

theorem run_shift {op : BinOp} {k k' : IntKind} {a s : Int} (hop : op = .shl ∨ op = .shr) : (do eqGuard op T x y (.int k a) (.int k' s); binOp op T (.int k a) (.int k' s)) = Op.shift op k a k' s := by
  rcases hop with rfl | rfl <;> cases k <;> cases k' <;> rfl
theorem y_shr {k k' : IntKind} (a s : Nat) (hx : ev E x = some (.int k (a : Int))) (hy : ev E y = some (.int k' (s : Int))) (ha : a < 2 ^ k.bits) : Pu P n E (.binOp .shr T x y T') ty (.int k ((a >>> s : Nat) : Int)) := fun _ _ _ _ c hF w => by
  simp only [execOp, hF.ev hx, hF.ev hy]
  have h : (a : Int).fdiv (2 ^ min s k.bits) = ((a >>> s : Nat) : Int) := by
    have h2 : ((2 : Int) ^ min s k.bits) = ((2 ^ min s k.bits : Nat) : Int) := by push_cast; rfl
    rw [h2, Int.fdiv_eq_ediv_of_nonneg _ (Int.natCast_nonneg _), ← Int.natCast_ediv, Nat.shiftRight_eq_div_pow]
    congr 1
    rcases Nat.le_total s k.bits with h | h
    · rw [Nat.min_eq_left h]
    · rw [Nat.min_eq_right h, Nat.div_eq_of_lt ha, Nat.div_eq_of_lt (Nat.lt_of_lt_of_le ha (Nat.pow_le_pow_right (by omega) h))]
  rw [run_shift (.inr rfl)]
  simp only [Op.shift, if_neg (show ¬ ((s : Int) < 0) by omega), Int.toNat_natCast, h]
  rfl
theorem y_shl {k k' : IntKind} (a s : Nat) (hx : ev E x = some (.int k (a : Int))) (hy : ev E y = some (.int k' (s : Int))) (hs : s ≤ k.bits) (h : a <<< s < 2 ^ top k) : Pu P n E (.binOp .shl T x y T') ty (.int k ((a <<< s : Nat) : Int)) := fun _ _ _ _ c hF w => by
  simp only [execOp, hF.ev hx, hF.ev hy]
  have h2 : (a : Int) * 2 ^ min s k.bits = ((a <<< s : Nat) : Int) := by
    rw [Nat.min_eq_left hs, Nat.shiftLeft_eq]; push_cast; rfl
  rw [run_shift (.inl rfl)]
  simp only [Op.shift, if_neg (show ¬ ((s : Int) < 0) by omega), Int.toNat_natCast, h2, wrap_lt (le_max h)]
  rfl
theorem lt32 {a : Nat} (h : a < 4294967296) : a < 2 ^ top .u32 := h
theorem y_cpl32 (a : Nat) (hx : ev E x = some (.int .u32 (a : Int))) (ha : a < 4294967296) : Pu P n E (.unOp .xor T x) ty (.int .u32 ((4294967295 ^^^ a : Nat) : Int)) := fun _ _ _ _ c hF w => by
  have h : Op.intBits .xor .u32 4294967295 (a : Int) = pure (.int .u32 ((4294967295 ^^^ a : Nat) : Int)) := by
    have hlt : 4294967295 ^^^ a < 2 ^ top .u32 := Nat.xor_lt_two_pow (by decide) (lt32 ha)
    have e : (4294967295 : Int) = ((4294967295 : Nat) : Int) := rfl
    rw [e]
    simp only [Op.intBits, BitVec.ofInt_natCast, BitVec.toNat_xor, BitVec.toNat_ofNat, Nat.mod_eq_of_lt (lt_bits (k := .u32) (lt32 ha))]
    rw [Nat.mod_eq_of_lt (by decide), wrap_lt (le_max hlt)]
  have h2 : Op.unary .xor (.int .u32 (a : Int)) = Op.intBits .xor .u32 4294967295 (a : Int) := rfl
  simp only [execOp, hF.ev hx, h2, h]; rfl
end
end Go.SL
