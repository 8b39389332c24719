/- A superblock's bytes in plain terms. -/
import Derived.Test.YtkpndnjhfocheaaSupersE
namespace Go.Proofs.Ytkpndnjhfocheaa
open Go.SL

theorem get4_le4 (n : Nat) (h : n < 4294967296) (r : List UInt8) : get4 (le4 n ++ r) = n := by
  have e : get4 (le4 n ++ r) = ((n % 256) ||| ((n >>> 8) % 256) <<< 8 ||| ((n >>> 16) % 256) <<< 16 ||| ((n >>> 24) % 256) <<< 24) := by
    simp [get4, le4, UInt8.toNat_ofNat']
  rw [e]
  have g0 : n % 256 < 256 := Nat.mod_lt _ (by omega)
  have g1 : (n >>> 8) % 256 < 256 := Nat.mod_lt _ (by omega)
  have g2 : (n >>> 16) % 256 < 256 := Nat.mod_lt _ (by omega)
  have e1 : (n % 256) ||| ((n >>> 8) % 256) <<< 8 = ((n >>> 8) % 256) <<< 8 + n % 256 := by
    rw [Nat.or_comm, ← Nat.shiftLeft_add_eq_or_of_lt (by omega : n % 256 < 2 ^ 8)]
  rw [e1]
  have l1 : ((n >>> 8) % 256) <<< 8 + n % 256 < 2 ^ 16 := by rw [Nat.shiftLeft_eq]; omega
  have e2 : ((n >>> 8) % 256) <<< 8 + n % 256 ||| ((n >>> 16) % 256) <<< 16 = ((n >>> 16) % 256) <<< 16 + (((n >>> 8) % 256) <<< 8 + n % 256) := by
    rw [Nat.or_comm, ← Nat.shiftLeft_add_eq_or_of_lt l1]
  rw [e2]
  have l2 : ((n >>> 16) % 256) <<< 16 + (((n >>> 8) % 256) <<< 8 + n % 256) < 2 ^ 24 := by rw [Nat.shiftLeft_eq, Nat.shiftLeft_eq]; omega
  rw [Nat.or_comm, ← Nat.shiftLeft_add_eq_or_of_lt l2]
  simp only [Nat.shiftLeft_eq, Nat.shiftRight_eq_div_pow]
  omega

variable (ar me lv mb rw ev ep : Int) (f : Nat → Int)
theorem summed_len : (summed (flds ar me lv mb rw ev ep f)).length = 60 := rfl
theorem text_len : (text (flds ar me lv mb rw ev ep f)).length = 64 := rfl
theorem text_magic : (text (flds ar me lv mb rw ev ep f)).take 4 = magic := rfl
theorem text_take : (text (flds ar me lv mb rw ev ep f)).take 60 = summed (flds ar me lv mb rw ev ep f) := by
  rw [text, List.take_append_of_le_length (by rw [summed_len]; exact Nat.le_refl _), List.take_of_length_le (by rw [summed_len]; exact Nat.le_refl _)]
theorem text_drop : (text (flds ar me lv mb rw ev ep f)).drop 60 = le4 (crc (summed (flds ar me lv mb rw ev ep f))) := by
  rw [text, List.drop_append_of_le_length (by rw [summed_len]; exact Nat.le_refl _), List.drop_of_length_le (by rw [summed_len]; exact Nat.le_refl _), List.nil_append]
theorem text_sum : get4 ((text (flds ar me lv mb rw ev ep f)).drop 60) = crc ((text (flds ar me lv mb rw ev ep f)).take 60) := by
  rw [text_drop, text_take]
  have := get4_le4 _ (crc_lt (summed (flds ar me lv mb rw ev ep f))) []
  rwa [List.append_nil] at this
/-- Each number is read back. -/
theorem text_fld {ar me lv mb rw ev ep : Int} {f : Nat → Int} (h : SpOk ar me lv mb rw ev ep f) (i : Nat) (hi : i < 12) : ∃ x, (flds ar me lv mb rw ev ep f)[i]? = some x ∧ (0 ≤ x ∧ x < 4294967296) ∧ get4 ((text (flds ar me lv mb rw ev ep f)).drop (4 + 4 * i)) = x.toNat := by
  have hx : ∀ y : Int, (flds ar me lv mb rw ev ep f)[i]? = some y → 0 ≤ y ∧ y < 4294967296 → ∃ x, (flds ar me lv mb rw ev ep f)[i]? = some x ∧ (0 ≤ x ∧ x < 4294967296) ∧ get4 ((text (flds ar me lv mb rw ev ep f)).drop (4 + 4 * i)) = x.toNat := by
    intro y hy hb
    refine ⟨y, hy, hb, ?_⟩
    have hr : ∃ r, (text (flds ar me lv mb rw ev ep f)).drop (4 + 4 * i) = le4 y.toNat ++ r := by
      rcases i with _|_|_|_|_|_|_|_|_|_|_|_|i <;> first
        | omega
        | (have hy' := Option.some.inj hy; subst hy'; exact ⟨_, rfl⟩)
    obtain ⟨r, hr⟩ := hr
    rw [hr]
    exact get4_le4 _ (by omega) _
  obtain ⟨h1, ⟨hs, g0, g1, g2⟩, h3, h4, h5, ⟨s1, s2, _⟩⟩ := h
  have hst : ∀ i : Nat, i < 4 → 0 ≤ f i ∧ f i ≤ 2 := fun i hi => by
    rcases Int.lt_or_le (i : Int) mb with k | k
    · have := s2 i hi k; omega
    · have := s1 i hi k; omega
  have f0 := hst 0 (by omega)
  have f1 := hst 1 (by omega)
  have f2 := hst 2 (by omega)
  have f3 := hst 3 (by omega)
  rcases i with _|_|_|_|_|_|_|_|_|_|_|_|i <;> first
    | omega
    | exact hx _ rfl (by omega)
end Go.Proofs.Ytkpndnjhfocheaa
