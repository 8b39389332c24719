/- That the stream comes through in time: a measure that goes down by one at every tick. -/
import Derived.Test.YtkpndnjhfocheaaPipedJ
namespace Go.Proofs.Ytkpndnjhfocheaa
open Go.SL
variable {X : Inhabited SL.Outside}

def Gap (timer due now n o : Int) : Int := if timer = 0 then 2 * (n - o) else (due + 1 - now) + 2 * max 0 ((n - o) - (due + 1 - now))
def Phi (len timer due sent now n o : Int) : Int := 65 * max 0 (60 - sent) + Gap timer due now n o + 3 * (len - n) + (len - o)
def Live (len a timer due sent now n o : Int) : Prop := now ≤ 61 ∨ (a = n ∧ now + Phi len timer due sent now n o ≤ 9999)

theorem live_step {len a n o n1 w1 timer due timer1 due1 sent sent1 now x a2 timer2 : Int} {lost : Prop}
    (h0 : 0 ≤ o ∧ o ≤ n ∧ n ≤ n1 ∧ n1 ≤ w1 ∧ w1 ≤ len ∧ len ≤ 400) (h1 : n1 ≤ o + 32) (ha : 0 ≤ a ∧ a ≤ n) (hn : 1 ≤ now ∧ 1 ≤ x ∧ 0 ≤ sent) (hw : w1 = min len (a + 64))
    (hT : timer ≠ 0 → now ≤ due ∧ due ≤ now + 64)
    (hS : (timer ≠ 0 ∧ timer1 = timer ∧ due1 = due ∧ sent1 = sent ∧ n1 = n) ∨ (timer = 0 ∧ timer1 = 0 ∧ sent1 = sent ∧ n1 = n ∧ w1 = a) ∨
      (timer = 0 ∧ timer1 ≠ 0 ∧ sent1 = sent + 1 ∧ due1 ≤ now + 64 ∧ now < due1 ∧ (60 ≤ sent → a = n → n < o + 32 → n < n1)))
    (hl : lost → now ≤ 60)
    (hA : (¬ lost ∧ a < n1 ∧ a2 = n1 ∧ timer2 = 0) ∨ ((lost ∨ n1 ≤ a) ∧ a2 = a ∧ timer2 = if timer1 ≠ 0 ∧ due1 ≤ now then 0 else timer1))
    (hL : Live len a timer due sent now n o) (hd : o < len) :
    Live len a2 timer2 due1 sent1 (now + 1) n1 (min n1 (o + x)) := by
  unfold Live Phi Gap at *
  by_cases hnow : now ≤ 60
  · exact .inl (by omega)
  · right
    have hnl : ¬ lost := fun h => hnow (hl h)
    have ha2 : a2 = n1 := by
      rcases hA with hA | hA
      · exact hA.2.2.1
      · rcases hA.1 with h | h
        · exact absurd h hnl
        · omega
    refine ⟨ha2, ?_⟩
    rcases hL with hL | ⟨hL1, hL2⟩
    · have hnow61 : now = 61 := by omega
      subst hnow61
      rcases hA with ⟨_, _, _, ht⟩ | ⟨_, _, ht⟩
      · subst ht
        rw [if_pos rfl]; omega
      · split at ht
        · subst ht; rw [if_pos rfl]; omega
        · rename_i hne
          subst ht
          split
          · omega
          · rcases hS with hS | hS | hS <;> omega
    · rcases hA with ⟨_, hA1, _, ht⟩ | ⟨_, hA1, ht⟩
      · subst ht
        rw [if_pos rfl]
        rcases hS with hS | hS | hS
        · omega
        · omega
        · rw [if_pos hS.1] at hL2
          omega
      · split at ht
        · rename_i hne
          subst ht; rw [if_pos rfl]
          rcases hS with hS | hS | hS
          · rw [if_neg hS.1] at hL2; omega
          · omega
          · omega
        · rename_i hne
          subst ht
          rcases hS with hS | hS | hS
          · rw [if_neg hS.1] at hL2
            rw [if_neg (by omega)]
            omega
          · rw [if_pos hS.1] at hL2
            rw [if_pos hS.2.1]
            omega
          · rw [if_pos hS.1] at hL2
            rw [if_neg hS.2.1]
            omega

structure T where
  m : M
  timer : Int
  due : Int
  sent : Nat
  told : Nat
  since : Nat
  now : Nat
  q : Nat
  e : Nat

def TMok (t : T) : Prop :=
  (t.timer = 0 ∧ t.m.wk = 0 ∧ t.m.wp = none ∧ t.m.wm = 0 ∧ t.m.wc = 0 ∧ t.m.frw = []) ∨
  (1 ≤ t.timer ∧ t.m.wm = 1 ∧ t.m.wk < 16 ∧ (∃ x, SlF 151 3 (.slice t.m.wp 1 t.m.wc) 1 (tm t.timer t.due x) t.m.frw) ∧ (t.now : Int) ≤ t.due ∧ t.due ≤ t.now + 64)

/-- What holds through a tick. -/
structure TI (D : List UInt8) (t : T) : Prop where
  ok : OK D t.m
  qe : t.q ≤ t.e
  ew : t.e ≤ t.m.w
  tm : TMok t
  sn : t.since ≤ t.now
  l0 : 0 ≤ t.m.last
  l1 : t.m.last ≤ t.sent
  s1 : t.sent ≤ t.now
  wn : t.m.wnow < t.now
  n1 : 1 ≤ t.now
  n2 : t.now ≤ 9999

structure HI (D : List UInt8) (t : T) : Prop where
  ok : OK D t.m
  qe : t.q ≤ t.e
  ew : t.e ≤ t.m.w
  tm : TMok t
  sn : t.since ≤ t.now
  l0 : 0 ≤ t.m.last
  l1 : t.m.last ≤ t.sent
  s1 : t.sent + 1 ≤ t.now
  tl : t.told + 1 = t.now
  wn : t.m.wnow < t.now
  n1 : 1 ≤ t.now
  n2 : t.now ≤ 10000
  lv : Live D.length t.m.a t.timer t.due t.sent t.now t.m.n t.m.o

/-- What the sending part of a tick has made of the state at its head. -/
def Sent (D : List UInt8) (h t : T) : Prop :=
  t.m.a = h.m.a ∧ t.m.o = h.m.o ∧ t.m.w = min D.length (h.m.a + 64) ∧ h.m.n ≤ t.m.n ∧
  ((h.timer ≠ 0 ∧ t.timer = h.timer ∧ t.due = h.due ∧ t.sent = h.sent ∧ t.m.n = h.m.n) ∨
   (h.timer = 0 ∧ t.timer = 0 ∧ t.sent = h.sent ∧ t.m.n = h.m.n ∧ t.m.w = h.m.a) ∨
   (h.timer = 0 ∧ t.timer ≠ 0 ∧ t.sent = h.sent + 1 ∧ t.due ≤ h.now + 64 ∧ h.now < t.due ∧ (60 ≤ h.sent → h.m.a = h.m.n → h.m.n < h.m.o + 32 → h.m.n < t.m.n)))
end Go.Proofs.Ytkpndnjhfocheaa
