/- A superblock's text in which one to four bytes side by side are torn is never right. -/
import Derived.Test.YtkpndnjhfocheaaSupersP
import Derived.Test.YtkpndnjhfocheaaSupersF
namespace Go.Proofs.Ytkpndnjhfocheaa
open Go.SL

/-- w bytes from the p-th on, each xored with d. -/
def spoil (l : List UInt8) (p w : Nat) (d : UInt8) : List UInt8 := l.take p ++ ((l.drop p).take w).map (· ^^^ d) ++ l.drop (p + w)
theorem spoil_len {l : List UInt8} {p w : Nat} {d : UInt8} (h : p + w ≤ l.length) : (spoil l p w d).length = l.length := by
  simp [spoil]; omega
theorem spoil_zero (l : List UInt8) (p : Nat) (d : UInt8) : spoil l p 0 d = l := by simp [spoil]
theorem spoil_get {l : List UInt8} {p w : Nat} {d : UInt8} (h : p + w ≤ l.length) (i : Nat) : (spoil l p w d)[i]? = if p ≤ i ∧ i < p + w then (l[i]?).map (· ^^^ d) else l[i]? := by
  unfold spoil
  rcases Nat.lt_or_ge i p with h1 | h1
  · rw [if_neg (by omega), List.append_assoc, List.getElem?_append_left (by simp; omega), List.getElem?_take, if_pos h1]
  · rcases Nat.lt_or_ge i (p + w) with h2 | h2
    · rw [if_pos ⟨h1, h2⟩, List.getElem?_append_left (by simp; omega), List.getElem?_append_right (by simp; omega)]
      simp only [List.length_take, List.getElem?_map, List.getElem?_take, List.getElem?_drop]
      rw [show min p l.length = p by omega, if_pos (by omega)]
      congr 2; omega
    · rw [if_neg (by omega), List.getElem?_append_right (by simp; omega), List.getElem?_drop]
      simp only [List.length_append, List.length_take, List.length_map, List.length_drop]
      congr 1; omega
theorem spoil_succ {l : List UInt8} {p w : Nat} {d : UInt8} (h : p + w < l.length) : (spoil l p w d).set (p + w) (l[p + w] ^^^ d) = spoil l p (w + 1) d := by
  apply List.ext_getElem?
  intro i
  rw [List.getElem?_set, spoil_get (by omega), spoil_get (by omega), spoil_len (by omega)]
  by_cases e : p + w = i
  · subst e
    rw [if_pos rfl, if_pos h, if_pos ⟨by omega, by omega⟩]
    simp [h]
  · rw [if_neg e]
    by_cases h1 : p ≤ i ∧ i < p + w
    · rw [if_pos h1, if_pos (by omega)]
    · rw [if_neg h1, if_neg (by omega)]

/-! the sum's side -/
theorem fold_zeros (k : Nat) : (List.replicate k 0).foldl dstep 0 = 0 := by
  induction k with
  | zero => rfl
  | succ k ih => rw [List.replicate_succ, List.foldl_cons, dstep_zero, ih]
theorem fold_ne (k : Nat) : ∀ {x : Nat}, x < 4294967296 → x ≠ 0 → (List.replicate k 0).foldl dstep x ≠ 0 := by
  induction k with
  | zero => intro x _ h; exact h
  | succ k ih =>
    intro x hx h
    rw [List.replicate_succ, List.foldl_cons]
    exact ih (dstep_lt hx (by decide)) (dstep_ne hx h)
theorem fold_lt (l : List Nat) (hl : ∀ d ∈ l, d < 256) : ∀ {x : Nat}, x < 4294967296 → l.foldl dstep x < 4294967296 := by
  induction l with
  | nil => intro x h; exact h
  | cons d l ih =>
    intro x hx
    exact ih (fun e he => hl e (List.mem_cons_of_mem _ he)) (dstep_lt hx (hl d List.mem_cons_self))
/-- The difference of two sums. -/
theorem crc_diff (l l' : List UInt8) (h : l.length = l'.length) : crc l ^^^ crc l' = ((l.zip l').map fun p => p.1.toNat ^^^ p.2.toNat).foldl dstep 0 := by
  have := fold_xor l l' 4294967295 4294967295 h
  rw [Nat.xor_self] at this
  rw [← this, crc, crc, crcAll, crcAll]
  generalize l.foldl crcByte 4294967295 = a
  generalize l'.foldl crcByte 4294967295 = b
  rw [Nat.xor_comm 4294967295 a, Nat.xor_assoc, ← Nat.xor_assoc 4294967295, Nat.xor_self, Nat.zero_xor]
theorem xor_self_byte (x d : UInt8) : x.toNat ^^^ (x ^^^ d).toNat = d.toNat := by
  rw [UInt8.toNat_xor, ← Nat.xor_assoc, Nat.xor_self, Nat.zero_xor]
theorem zip_same (l : List UInt8) : ((l.zip l).map fun p => p.1.toNat ^^^ p.2.toNat) = List.replicate l.length 0 := by
  induction l with
  | nil => rfl
  | cons x l ih => simp only [List.zip_cons_cons, List.map_cons, Nat.xor_self, ih, List.length_cons, List.replicate_succ]
theorem zip_spoilt (l : List UInt8) (d : UInt8) : ((l.zip (l.map (· ^^^ d))).map fun p => p.1.toNat ^^^ p.2.toNat) = List.replicate l.length d.toNat := by
  induction l with
  | nil => rfl
  | cons x l ih => simp only [List.map_cons, List.zip_cons_cons, xor_self_byte, ih, List.length_cons, List.replicate_succ]
theorem zip_spoil {l : List UInt8} {p w : Nat} {d : UInt8} (h : p + w ≤ l.length) :
    ((l.zip (spoil l p w d)).map fun p => p.1.toNat ^^^ p.2.toNat) = List.replicate p 0 ++ List.replicate w d.toNat ++ List.replicate (l.length - (p + w)) 0 := by
  have e : l = l.take p ++ (l.drop p).take w ++ l.drop (p + w) := by
    rw [← List.drop_drop, List.append_assoc, List.take_append_drop, List.take_append_drop]
  have hz : l.zip (spoil l p w d) = (l.take p).zip (l.take p) ++ ((l.drop p).take w).zip (((l.drop p).take w).map (· ^^^ d)) ++ (l.drop (p + w)).zip (l.drop (p + w)) := by
    conv => lhs; arg 1; rw [e]
    unfold spoil
    rw [List.zip_append (by simp), List.zip_append rfl]
  rw [hz, List.map_append, List.map_append, zip_same, zip_same, zip_spoilt]
  congr 2
  · congr 1; simp; omega
  · congr 1; simp; omega
  · congr 1; simp
theorem crc_spoil {l : List UInt8} {p w : Nat} {d : UInt8} (h : p + w ≤ l.length) : crc l ^^^ crc (spoil l p w d) = (List.replicate (l.length - (p + w)) 0).foldl dstep ((List.replicate w d.toNat).foldl dstep 0) := by
  rw [crc_diff _ _ (spoil_len h).symm, zip_spoil h, List.foldl_append, List.foldl_append, fold_zeros]

/-! the sum's own bytes -/
theorem tb8 (x : UInt8) {i : Nat} (h : 8 ≤ i) : x.toNat.testBit i = false := by
  apply Nat.testBit_lt_two_pow
  have := UInt8.toNat_lt x
  exact Nat.lt_of_lt_of_le this (Nat.pow_le_pow_right (by decide) h : 2 ^ 8 ≤ 2 ^ i)
/-- Four bytes' number, as it is laid down. -/
def num4 (a b c e : UInt8) : Nat := a.toNat ||| b.toNat <<< 8 ||| c.toNat <<< 16 ||| e.toNat <<< 24
theorem num4_bit (a b c e : UInt8) (i : Nat) : (num4 a b c e).testBit i = if i < 8 then a.toNat.testBit i else if i < 16 then b.toNat.testBit (i - 8) else if i < 24 then c.toNat.testBit (i - 16) else e.toNat.testBit (i - 24) := by
  unfold num4
  simp only [Nat.testBit_or, Nat.testBit_shiftLeft]
  by_cases h1 : i < 8
  · rw [if_pos h1]
    simp [show ¬ (8 ≤ i) by omega, show ¬ (16 ≤ i) by omega, show ¬ (24 ≤ i) by omega]
  · rw [if_neg h1, tb8 a (by omega)]
    by_cases h2 : i < 16
    · rw [if_pos h2]
      simp [show 8 ≤ i by omega, show ¬ (16 ≤ i) by omega, show ¬ (24 ≤ i) by omega]
    · rw [if_neg h2, tb8 b (by omega)]
      by_cases h3 : i < 24
      · rw [if_pos h3]
        simp [show 16 ≤ i by omega, show ¬ (24 ≤ i) by omega]
      · rw [if_neg h3, tb8 c (by omega)]
        simp [show 24 ≤ i by omega]
theorem num4_xor (a b c e a' b' c' e' : UInt8) : num4 (a ^^^ a') (b ^^^ b') (c ^^^ c') (e ^^^ e') = num4 a b c e ^^^ num4 a' b' c' e' := by
  apply Nat.eq_of_testBit_eq
  intro i
  rw [Nat.testBit_xor, num4_bit, num4_bit, num4_bit]
  simp only [UInt8.toNat_xor, Nat.testBit_xor]
  by_cases h1 : i < 8
  · simp [h1]
  · by_cases h2 : i < 16
    · simp [h1, h2]
    · by_cases h3 : i < 24
      · simp [h1, h2, h3]
      · simp [h1, h2, h3]
theorem num4_runs : ∀ d : Nat, d < 256 → num4 (UInt8.ofNat d) 0 0 0 = d ∧ num4 (UInt8.ofNat d) (UInt8.ofNat d) 0 0 = d * 257 ∧ num4 (UInt8.ofNat d) (UInt8.ofNat d) (UInt8.ofNat d) 0 = d * 65793 ∧ num4 (UInt8.ofNat d) (UInt8.ofNat d) (UInt8.ofNat d) (UInt8.ofNat d) = d * 16843009 := by decide +kernel
theorem get4_four (a b c e : UInt8) : get4 [a, b, c, e] = num4 a b c e := rfl
theorem spoil_take {t : List UInt8} {p w k : Nat} {d : UInt8} (h : p + w ≤ t.length) (hk : k ≤ t.length) (hp : p ≤ k) : (spoil t p w d).take k = spoil (t.take k) p (min w (k - p)) d := by
  apply List.ext_getElem?
  intro i
  rw [List.getElem?_take, spoil_get h, spoil_get (by simp; omega), List.getElem?_take]
  by_cases h1 : i < k
  · rw [if_pos h1, if_pos h1]
    by_cases h2 : p ≤ i ∧ i < p + w
    · rw [if_pos h2, if_pos (by omega)]
    · rw [if_neg h2, if_neg (by omega)]
  · rw [if_neg h1, if_neg h1]
    split <;> rfl
theorem spoil_drop {t : List UInt8} {p w k : Nat} {d : UInt8} (h : p + w ≤ t.length) (hp : p ≤ k) : (spoil t p w d).drop k = spoil (t.drop k) 0 (p + w - k) d := by
  apply List.ext_getElem?
  intro i
  rw [List.getElem?_drop, spoil_get h, spoil_get (by simp; omega), List.getElem?_drop]
  by_cases h2 : i < p + w - k
  · rw [if_pos (by omega), if_pos (by omega)]
  · rw [if_neg (by omega), if_neg (by omega)]

theorem run_lt (d : UInt8) (w : Nat) : (List.replicate w d.toNat).foldl dstep 0 < 4294967296 :=
  fold_lt _ (fun x hx => by rw [List.eq_of_mem_replicate hx]; exact UInt8.toNat_lt d) (by decide)
def runs (d : Nat) : Nat → Nat
  | 0 => 0
  | 1 => d
  | 2 => d * 257
  | 3 => d * 65793
  | _ => d * 16843009
/-- What the burst does to the sum's own bytes. -/
theorem get4_spoil {l : List UInt8} {r : Nat} {d : UInt8} (hl : l.length = 4) (hr : r ≤ 4) : get4 l ^^^ get4 (spoil l 0 r d) = runs d.toNat r := by
  match l, hl with
  | [a, b, c, e], _ =>
    obtain ⟨r1, r2, r3, r4⟩ := num4_runs d.toNat (UInt8.toNat_lt d)
    rw [UInt8.ofNat_toNat] at r1 r2 r3 r4
    have hx : ∀ x y : Nat, x ^^^ (x ^^^ y) = y := fun x y => by rw [← Nat.xor_assoc, Nat.xor_self, Nat.zero_xor]
    have z : ∀ x : UInt8, x ^^^ 0 = x := fun x => UInt8.xor_zero
    match r, hr with
    | 0, _ => rw [spoil_zero, Nat.xor_self]; rfl
    | 1, _ =>
      have := num4_xor a b c e d 0 0 0
      rw [z, z, z, r1] at this
      show num4 a b c e ^^^ num4 (a ^^^ d) b c e = _
      rw [this, hx]; rfl
    | 2, _ =>
      have := num4_xor a b c e d d 0 0
      rw [z, z, r2] at this
      show num4 a b c e ^^^ num4 (a ^^^ d) (b ^^^ d) c e = _
      rw [this, hx]; rfl
    | 3, _ =>
      have := num4_xor a b c e d d d 0
      rw [z, r3] at this
      show num4 a b c e ^^^ num4 (a ^^^ d) (b ^^^ d) (c ^^^ d) e = _
      rw [this, hx]; rfl
    | 4, _ =>
      have := num4_xor a b c e d d d d
      rw [r4] at this
      show num4 a b c e ^^^ num4 (a ^^^ d) (b ^^^ d) (c ^^^ d) (e ^^^ d) = _
      rw [this, hx]; rfl

theorem burst_bad {t : List UInt8} {p w : Nat} {d : UInt8} (ht : t.length = 64) (hok : get4 (t.drop 60) = crc (t.take 60)) (hd : d.toNat % 2 = 1) (hw : 1 ≤ w ∧ w ≤ 4) (hp : p ≤ 60) :
    get4 ((spoil t p w d).drop 60) ≠ crc ((spoil t p w d).take 60) := by
  intro heq
  rw [spoil_take (by omega) (by omega) hp, spoil_drop (by omega) hp] at heq
  have h1 := crc_spoil (l := t.take 60) (p := p) (w := min w (60 - p)) (d := d) (by simp; omega)
  have h2 := get4_spoil (l := t.drop 60) (r := p + w - 60) (d := d) (by simp; omega) (by omega)
  rw [← heq, ← hok, h2] at h1
  obtain ⟨n1, n2, n3, n4⟩ := burst_ne d.toNat (UInt8.toNat_lt d) hd
  obtain ⟨⟨s1, s2, s3⟩, ⟨s4, s5⟩, s6⟩ := burst_sum d.toNat (UInt8.toNat_lt d) hd
  have hlen : (t.take 60).length = 60 := by simp; omega
  rw [hlen] at h1
  have hrun : ∀ w, (List.replicate w d.toNat).foldl dstep 0 < 4294967296 := run_lt d
  by_cases hin : p + w ≤ 60
  · rw [show p + w - 60 = 0 by omega, show min w (60 - p) = w by omega] at h1
    have hne : (List.replicate w d.toNat).foldl dstep 0 ≠ 0 := by
      have : w = 1 ∨ w = 2 ∨ w = 3 ∨ w = 4 := by omega
      rcases this with rfl | rfl | rfl | rfl
      · exact n1
      · exact n2
      · exact n3
      · exact n4
    exact fold_ne _ (hrun w) hne h1.symm
  · rw [show min w (60 - p) = 60 - p by omega, show 60 - (p + (60 - p)) = 0 by omega] at h1
    have : (p = 60 ∧ w = 1) ∨ (p = 60 ∧ w = 2) ∨ (p = 60 ∧ w = 3) ∨ (p = 60 ∧ w = 4) ∨ (p = 59 ∧ w = 2) ∨ (p = 59 ∧ w = 3) ∨ (p = 59 ∧ w = 4) ∨ (p = 58 ∧ w = 3) ∨ (p = 58 ∧ w = 4) ∨ (p = 57 ∧ w = 4) := by omega
    have hpos : d.toNat ≠ 0 := by omega
    rcases this with ⟨rfl, rfl⟩ | ⟨rfl, rfl⟩ | ⟨rfl, rfl⟩ | ⟨rfl, rfl⟩ | ⟨rfl, rfl⟩ | ⟨rfl, rfl⟩ | ⟨rfl, rfl⟩ | ⟨rfl, rfl⟩ | ⟨rfl, rfl⟩ | ⟨rfl, rfl⟩
    · exact hpos h1
    · have h1' : d.toNat * 257 = 0 := h1
      omega
    · have h1' : d.toNat * 65793 = 0 := h1
      omega
    · have h1' : d.toNat * 16843009 = 0 := h1
      omega
    · exact s1 h1.symm
    · exact s2 h1.symm
    · exact s3 h1.symm
    · exact s4 h1.symm
    · exact s5 h1.symm
    · exact s6 h1.symm
end Go.Proofs.Ytkpndnjhfocheaa
