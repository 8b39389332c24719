/- The sum sees every burst: it is linear, and it loses nothing. -/
import Derived.Test.YtkpndnjhfocheaaSupersA
namespace Go.Proofs.Ytkpndnjhfocheaa
open Go.SL

theorem crcBit_eq (n : Nat) : crcBit n = (n >>> 1) ^^^ (if n % 2 = 1 then 3988292384 else 0) := by
  unfold crcBit
  rw [Nat.and_one_is_mod]
  split
  · rfl
  · rw [Nat.xor_zero]
theorem xor_mod2 (a b : Nat) : (a ^^^ b) % 2 = (a % 2 + b % 2) % 2 := by
  have h := Nat.xor_mod_two_pow (a := a) (b := b) (n := 1)
  rw [Nat.pow_one] at h
  rw [h]
  rcases Nat.mod_two_eq_zero_or_one a with h1 | h1 <;> rcases Nat.mod_two_eq_zero_or_one b with h2 | h2 <;> rw [h1, h2] <;> rfl
theorem crcBit_xor (a b : Nat) : crcBit (a ^^^ b) = crcBit a ^^^ crcBit b := by
  rw [crcBit_eq, crcBit_eq, crcBit_eq, Nat.shiftRight_xor_distrib, xor_mod2]
  rcases Nat.mod_two_eq_zero_or_one a with h1 | h1 <;> rcases Nat.mod_two_eq_zero_or_one b with h2 | h2 <;> rw [h1, h2]
  · simp
  · simp [Nat.xor_assoc]
  · simp only [Nat.add_zero, Nat.zero_ne_one, if_false, if_true, Nat.xor_zero]
    rw [Nat.xor_assoc, Nat.xor_assoc, Nat.xor_comm (b >>> 1)]
  · simp only [if_true]
    rw [show (1 + 1) % 2 = 0 from rfl, if_neg (by decide), Nat.xor_zero, Nat.xor_assoc, Nat.xor_comm (b >>> 1), ← Nat.xor_assoc 3988292384, Nat.xor_self, Nat.zero_xor]
theorem crcBits_xor (k a b : Nat) : crcBits k (a ^^^ b) = crcBits k a ^^^ crcBits k b := by
  induction k with
  | zero => rfl
  | succ k ih => simp only [crcBits, ih, crcBit_xor]
/-- Nothing but nought becomes nought. -/
theorem crcBit_zero {n : Nat} (h : n < 4294967296) (h0 : crcBit n = 0) : n = 0 := by
  rw [crcBit_eq] at h0
  have h1 : n >>> 1 = (if n % 2 = 1 then 3988292384 else 0) := by
    have := congrArg (fun z => z ^^^ (if n % 2 = 1 then 3988292384 else 0)) h0
    simpa [Nat.xor_assoc] using this
  rw [Nat.shiftRight_eq_div_pow] at h1
  split at h1 <;> omega
theorem crcBits_zero (k : Nat) {n : Nat} (h : n < 4294967296) (h0 : crcBits k n = 0) : n = 0 := by
  induction k with
  | zero => exact h0
  | succ k ih => exact ih (crcBit_zero (crcBits_lt k h) h0)

/-- How a difference goes through. -/
def dstep (x d : Nat) : Nat := crcBits 8 (x ^^^ d)
theorem crcByte_xor (n n' : Nat) (c c' : UInt8) : crcByte n c ^^^ crcByte n' c' = dstep (n ^^^ n') (c.toNat ^^^ c'.toNat) := by
  rw [crcByte, crcByte, dstep, ← crcBits_xor]
  congr 1
  rw [Nat.xor_assoc, Nat.xor_assoc, ← Nat.xor_assoc c.toNat, Nat.xor_comm c.toNat n', Nat.xor_assoc n']
theorem fold_xor : ∀ (l l' : List UInt8) (n n' : Nat), l.length = l'.length → l.foldl crcByte n ^^^ l'.foldl crcByte n' = ((l.zip l').map fun p => p.1.toNat ^^^ p.2.toNat).foldl dstep (n ^^^ n')
  | [], [], n, n', _ => rfl
  | [], _ :: _, _, _, h => by cases h
  | _ :: _, [], _, _, h => by cases h
  | c :: l, c' :: l', n, n', h => by
    simp only [List.foldl_cons, List.zip_cons_cons, List.map_cons]
    rw [fold_xor l l' _ _ (by simpa using h), crcByte_xor]
theorem dstep_zero : dstep 0 0 = 0 := by decide
theorem dstep_lt {x d : Nat} (hx : x < 4294967296) (hd : d < 256) : dstep x d < 4294967296 := crcBits_lt 8 (Nat.xor_lt_two_pow (n := 32) hx (by omega))
theorem dstep_ne {x : Nat} (hx : x < 4294967296) (h : x ≠ 0) : dstep x 0 ≠ 0 := fun h0 => by
  rw [dstep, Nat.xor_zero] at h0
  exact h (crcBits_zero 8 hx h0)
/-- A run of the same odd byte is never lost, neither inside the text nor against the sum's own bytes. -/
theorem burst_ne : ∀ d, d < 256 → d % 2 = 1 → dstep 0 d ≠ 0 ∧ dstep (dstep 0 d) d ≠ 0 ∧ dstep (dstep (dstep 0 d) d) d ≠ 0 ∧ dstep (dstep (dstep (dstep 0 d) d) d) d ≠ 0 := by decide +kernel
theorem burst_sum : ∀ d, d < 256 → d % 2 = 1 → (dstep 0 d ≠ d ∧ dstep 0 d ≠ d * 257 ∧ dstep 0 d ≠ d * 65793) ∧ (dstep (dstep 0 d) d ≠ d ∧ dstep (dstep 0 d) d ≠ d * 257) ∧ dstep (dstep (dstep 0 d) d) d ≠ d := by decide +kernel
end Go.Proofs.Ytkpndnjhfocheaa
