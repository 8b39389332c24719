/- What the receiver's rows hold, in plain terms: each byte that came is the stream's byte. -/
import Derived.Test.YtkpndnjhfocheaaPipedG
import Derived.Test.YtkpndnjhfocheaaPipedH
namespace Go.Proofs.Ytkpndnjhfocheaa
open Go.SL
variable {X : Inhabited SL.Outside}

/-- The number of the stream's k-th byte. -/
abbrev pos (st : Int) (k : Nat) : Int := (st + k) % 4294967296
theorem pos_off (st : Int) (x n : Nat) : (pos st x - pos st n) % 4294967296 = ((x : Int) - n) % 4294967296 := by
  simp only [pos]; omega
theorem pos_add (st : Int) (x i : Nat) : (pos st x + i) % 4294967296 = pos st (x + i) := by
  simp only [pos]; push_cast; omega

def Got (D : List UInt8) (n w : Nat) (dat : List UInt8) (has : List Bool) : Prop := ∀ j, has[j]?.getD false = true → n + j < w ∧ dat[j]? = D[n + j]?

theorem getD_set_true (has : List Bool) (k j : Nat) (h : (has.set k true)[j]?.getD false = true) : j = k ∨ has[j]?.getD false = true := by
  by_cases e : k = j
  · exact .inl e.symm
  · rw [List.getElem?_set_ne e] at h; exact .inr h

theorem putTo_got {D : List UInt8} {st : Int} {n w q e : Nat} {win : Int} {dat : List UInt8} {has : List Bool} (hw : w ≤ D.length) (hD : D.length ≤ 400) (hn : n ≤ w) (hq : q ≤ e) (he : e ≤ w) (hwin : win ≤ 32) (hdl : dat.length = 32) (hg : Got D n w dat has) :
    ∀ i, i ≤ e - q → Got D n w (putTo (pos st n) (pos st q) win ((D.take e).drop q) dat has i).1 (putTo (pos st n) (pos st q) win ((D.take e).drop q) dat has i).2
  | 0, _ => hg
  | i + 1, hi => by
    have ih := putTo_got (st := st) hw hD hn hq he hwin hdl hg i (by omega)
    have hlen := (putTo_len (pos st n) (pos st q) win ((D.take e).drop q) dat has i).1
    rw [putTo_succ, putStep]
    rw [pos_add, pos_off]
    split
    · rename_i h
      obtain ⟨h1, h2⟩ := h
      have hge : n ≤ q + i := by
        rcases Nat.lt_or_ge (q + i) n with hlt | hge
        · exfalso; omega
        · exact hge
      have hoff : (((q + i : Nat) : Int) - n) % 4294967296 = ((q + i - n : Nat) : Int) := by omega
      rw [hoff] at h1 ⊢
      rw [Int.toNat_natCast]
      intro j hj
      have hdi : ((D.take e).drop q)[i]? = D[q + i]? := by
        rw [List.getElem?_drop, List.getElem?_take, if_pos (by omega)]
      have hDi : q + i < D.length := by omega
      by_cases ej : j = q + i - n
      · subst ej
        refine ⟨by omega, ?_⟩
        simp only []
        rw [List.getElem?_set_self (by rw [hlen, hdl]; omega), hdi, show n + (q + i - n) = q + i by omega, List.getElem?_eq_getElem hDi]
        rfl
      · have h3 := (getD_set_true _ _ _ hj).resolve_left ej
        obtain ⟨g1, g2⟩ := ih j h3
        refine ⟨g1, ?_⟩
        simp only []
        rw [List.getElem?_set_ne (by omega)]
        exact g2
    · exact ih

theorem putTo_keeps (next seq win : Int) (d dat : List UInt8) (has : List Bool) (j : Nat) : ∀ i k, (putTo next seq win d dat has i).2[j]?.getD false = true → (putTo next seq win d dat has (i + k)).2[j]?.getD false = true
  | _, 0, h => h
  | i, k + 1, h => by
    have ih := putTo_keeps next seq win d dat has j i k h
    rw [← Nat.add_assoc, putTo_succ, putStep]
    split
    · simp only []
      by_cases e : (((seq + ((i + k : Nat) : Int)) % 4294967296 - next) % 4294967296).toNat = j
      · rw [e]
        have hlt : j < (putTo next seq win d dat has (i + k)).2.length := by
          rcases Nat.lt_or_ge j (putTo next seq win d dat has (i + k)).2.length with h' | h'
          · exact h'
          · rw [List.getElem?_eq_none h'] at ih; cases ih
        rw [List.getElem?_set_self hlt]; rfl
      · rw [List.getElem?_set_ne e]; exact ih
    · exact ih

theorem putTo_first {D : List UInt8} {st : Int} {n q e : Nat} {win : Int} {dat : List UInt8} {has : List Bool} (heD : e ≤ D.length) (hq : q ≤ n) (he : n < e) (hwin : 1 ≤ win) (hhl : has.length = 32) :
    (putTo (pos st n) (pos st q) win ((D.take e).drop q) dat has ((D.take e).drop q).length).2[0]?.getD false = true := by
  have hlen : ((D.take e).drop q).length = (n - q + 1) + (e - n - 1) := by rw [List.length_drop, List.length_take]; omega
  rw [hlen]
  refine putTo_keeps _ _ _ _ _ _ 0 _ _ ?_
  have hl := (putTo_len (pos st n) (pos st q) win ((D.take e).drop q) dat has (n - q)).2
  rw [putTo_succ, putStep, pos_add, pos_off]
  have h0 : (((q + (n - q) : Nat) : Int) - n) % 4294967296 = 0 := by omega
  rw [h0]
  split
  · simp only [Int.toNat_zero]
    rw [List.getElem?_set_self (by omega)]; rfl
  · rename_i h
    simp only [Int.toNat_zero] at h
    have : ¬ (putTo (pos st n) (pos st q) win ((D.take e).drop q) dat has (n - q)).2[0]?.getD false = false := fun hc => h ⟨by omega, hc⟩
    simpa using this

theorem got_shift {D : List UInt8} {n w m : Nat} {dat : List UInt8} {has : List Bool} (hdl : dat.length = 32) (hhl : has.length = 32) (hm : m ≤ 32) (hg : Got D n w dat has) : Got D (n + m) w (shiftL dat m) (moved has m) := by
  intro j hj
  have hlt : j < 32 - m := by
    rcases Nat.lt_or_ge j (32 - m) with h | h
    · exact h
    · exfalso
      rw [moved, List.getElem?_append_right (by rw [List.length_drop]; omega), List.getElem?_replicate] at hj
      split at hj <;> cases hj
  rw [moved, List.getElem?_append_left (by rw [List.length_drop]; omega), List.getElem?_drop] at hj
  obtain ⟨h1, h2⟩ := hg (m + j) hj
  refine ⟨by omega, ?_⟩
  rw [shiftL, List.getElem?_append_left (by rw [List.length_drop]; omega), List.getElem?_drop, h2]
  congr 1; omega

theorem got_take {D : List UInt8} {n w m o : Nat} {dat : List UInt8} {has : List Bool} (hn : n ≤ D.length) (ho : o ≤ n) (hg : Got D n w dat has) (hall : ∀ j, j < m → has[j]?.getD false = true) :
    (D.take n).drop o ++ dat.take m = (D.take (n + m)).drop o := by
  have h1 : dat.take m = (D.drop n).take m := by
    apply List.ext_getElem?
    intro j
    rw [List.getElem?_take, List.getElem?_take]
    by_cases hj : j < m
    · rw [if_pos hj, if_pos hj, (hg j (hall j hj)).2, List.getElem?_drop]
    · rw [if_neg hj, if_neg hj]
  rw [h1, List.take_add, List.drop_append_of_le_length (by rw [List.length_take]; omega)]
end Go.Proofs.Ytkpndnjhfocheaa
