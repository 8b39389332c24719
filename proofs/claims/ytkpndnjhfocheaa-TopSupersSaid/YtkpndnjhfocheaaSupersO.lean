/- A disk's two slots, as superblocks are put on it. -/
import Derived.Test.YtkpndnjhfocheaaSupersN
import Derived.Test.YtkpndnjhfocheaaSLq
namespace Go.Proofs.Ytkpndnjhfocheaa
open Go.SL
variable {X : Inhabited SL.Outside}

section
variable {lv mb rw : Int} {st : Int → Nat → Int}
abbrev tx (lv mb rw : Int) (st : Int → Nat → Int) (me ev : Int) : List UInt8 := text (flds 7 me lv mb rw ev ev (st ev))
/-- A slot that the other one outdoes. -/
def Low (X : Inhabited SL.Outside) (c : List UInt8) (ev : Int) : Prop := ∃ ar me lv mb rw ev' ep f e, Reads X c ar me lv mb rw ev' ep f e ∧ (e ≠ 0 ∨ (e = 0 ∧ ev' < ev))
/-- A disk whose superblock is the event's; s: the slot for the next one. -/
def DOk (X : Inhabited SL.Outside) (lv mb rw : Int) (st : Int → Nat → Int) (c0 c1 : List UInt8) (s : Nat) (me ev : Int) : Prop :=
  (s = 1 ∧ c0 = tx lv mb rw st me ev ∧ Low X c1 ev) ∨ (s = 0 ∧ c1 = tx lv mb rw st me ev ∧ Low X c0 ev)
def SOk (lv mb rw : Int) (st : Int → Nat → Int) (me ev : Int) : Prop := SpOk 7 me lv mb rw ev ev (st ev)

theorem reads_tx {me ev : Int} (h : SOk lv mb rw st me ev) : Reads X (tx lv mb rw st me ev) 7 me lv mb rw ev ev (st ev) 0 := fun F => readok_spec F 7 me lv mb rw ev ev (st ev) h
theorem low_tx {me ev e : Int} (h : SOk lv mb rw st me ev) (he : ev < e) : Low X (tx lv mb rw st me ev) e := ⟨_, _, _, _, _, _, _, _, _, reads_tx h, .inr ⟨rfl, he⟩⟩
theorem low_bad {c : List UInt8} (hl : c.length = 64) (h : c.take 4 ≠ magic ∨ get4 (c.drop 60) ≠ crc (c.take 60)) (ev : Int) : Low X c ev := by
  refine ⟨0, 0, 0, 0, 0, 0, 0, fun _ => 0, (if c.take 4 = magic then 9 else 8), fun F => ?_, .inl ?_⟩
  · exact readbad_spec F c hl h
  · split <;> omega
abbrev noughts64 : List UInt8 := List.replicate 64 0
theorem low_zero (ev : Int) : Low X noughts64 ev := low_bad (by simp) (.inl (by decide)) ev
theorem tx_torn {me ev : Int} {p w : Nat} {d : UInt8} (hd : d.toNat % 2 = 1) (hw : 1 ≤ w ∧ w ≤ 4) (hp : p ≤ 60) (e : Int) : Low X (spoil (tx lv mb rw st me ev) p w d) e :=
  low_bad (by rw [spoil_len (by rw [text_len]; omega), text_len]) (.inr (burst_bad (text_len ..) (text_sum ..) hd hw hp)) e

theorem of_zero (F : Hp) : Ctr (X := X) Try.prog 36 [S noughts64, S noughts64] F (fun v L' => v = .tuple #[.agg ⟨sp0⟩, int 0, .bool false] ∧ L' = F) := by
  have hr : Reads X noughts64 0 0 0 0 0 0 0 (fun _ => 0) 8 := fun F => readbad_spec F noughts64 (by simp) (.inl (by decide))
  refine (of_spec F hr hr).mono ?_
  rintro v L' ⟨rfl, rfl⟩
  exact ⟨by rw [if_pos ⟨by decide, by decide⟩], rfl⟩
theorem of_dok {c0 c1 : List UInt8} {s : Nat} {me ev : Int} (h : SOk lv mb rw st me ev) (hD : DOk X lv mb rw st c0 c1 s me ev) (F : Hp) :
    Ctr Try.prog 36 [S c0, S c1] F (fun v L' => v = .tuple #[.agg ⟨spc 7 me lv mb rw ev ev (st ev) 0⟩, int s, .bool true] ∧ L' = F) := by
  rcases hD with ⟨rfl, rfl, ar, me', lv', mb', rw', ev', ep, f, e, hr, he⟩ | ⟨rfl, rfl, ar, me', lv', mb', rw', ev', ep, f, e, hr, he⟩
  · refine (of_spec F (reads_tx h) hr).mono ?_
    rintro v L' ⟨rfl, rfl⟩
    refine ⟨?_, rfl⟩
    rw [if_neg (fun k => k.1 rfl), if_pos]
    · rfl
    · rcases he with he | ⟨_, he⟩
      · exact .inl he
      · exact .inr ⟨rfl, by omega⟩
  · refine (of_spec F hr (reads_tx h)).mono ?_
    rintro v L' ⟨rfl, rfl⟩
    refine ⟨?_, rfl⟩
    rw [if_neg (fun k => k.2 rfl), if_neg]
    · rfl
    · rintro (k | ⟨k1, k2⟩)
      · exact k rfl
      · rcases he with he | ⟨_, he⟩
        · exact he k1
        · omega
theorem DOk.slot {c0 c1 : List UInt8} {s : Nat} {me ev : Int} (h : DOk X lv mb rw st c0 c1 s me ev) : s = 0 ∨ s = 1 := by
  rcases h with ⟨h, _⟩ | ⟨h, _⟩
  · exact .inr h
  · exact .inl h

/-- The slots of all disks: c at 2 i and 2 i + 1. -/
def DAll (X : Inhabited SL.Outside) (lv mb rw : Int) (st : Int → Nat → Int) (c : Nat → List UInt8) (s : Nat → Nat) (me ev : Nat → Int) (j : Nat) : Prop := DOk X lv mb rw st (c (2 * j)) (c (2 * j + 1)) (s j) (me j) (ev j)
theorem DAll.slot {c : Nat → List UInt8} {s : Nat → Nat} {me ev : Nat → Int} {j : Nat} (h : DAll X lv mb rw st c s me ev j) : s j = 0 ∨ s j = 1 := DOk.slot h
theorem DAll.other {c : Nat → List UInt8} {s : Nat → Nat} {me ev : Nat → Int} {i j : Nat} (h : DAll X lv mb rw st c s me ev j) (hij : i ≠ j) {t : Nat} (ht : t = 0 ∨ t = 1) (x : List UInt8) (s' : Nat) (e : Int) :
    DAll X lv mb rw st (upf c (2 * i + t) x) (upf s i s') me (upf ev i e) j := by
  unfold DAll at *
  rw [upf_ne _ _ (by omega), upf_ne _ _ (by omega), upf_ne _ _ (Ne.symm hij), upf_ne _ _ (Ne.symm hij)]
  exact h
/-- A newer superblock is put into the other slot. -/
theorem DAll.put {c : Nat → List UInt8} {s : Nat → Nat} {me ev : Nat → Int} {j : Nat} {e : Int} (h : DAll X lv mb rw st c s me ev j) (hS : SOk lv mb rw st (me j) (ev j)) (he : ev j < e) :
    DAll X lv mb rw st (upf c (2 * j + s j) (tx lv mb rw st (me j) e)) (upf s j (1 - s j)) me (upf ev j e) j := by
  unfold DAll at *
  rw [upf_self, upf_self]
  rcases h with ⟨h1, h2, h3⟩ | ⟨h1, h2, h3⟩
  · rw [h1, upf_ne _ _ (by omega), upf_self]
    exact .inr ⟨rfl, rfl, h2 ▸ low_tx hS he⟩
  · rw [h1, Nat.add_zero, upf_self, upf_ne _ _ (by omega)]
    exact .inl ⟨rfl, rfl, h2 ▸ low_tx hS he⟩
/-- What is torn in the other slot leaves the disk's superblock as it was. -/
theorem DAll.torn {c : Nat → List UInt8} {s : Nat → Nat} {me ev : Nat → Int} {j : Nat} {x : List UInt8} (h : DAll X lv mb rw st c s me ev j) (hx : ∀ e, Low X x e) : DAll X lv mb rw st (upf c (2 * j + s j) x) s me ev j := by
  unfold DAll at *
  rcases h with ⟨h1, h2, h3⟩ | ⟨h1, h2, h3⟩
  · rw [h1, upf_ne _ _ (by omega), upf_self]
    exact .inl ⟨rfl, h2, hx _⟩
  · rw [h1, Nat.add_zero, upf_self, upf_ne _ _ (by omega)]
    exact .inr ⟨rfl, h2, hx _⟩
theorem DAll.tornO {c : Nat → List UInt8} {s : Nat → Nat} {me ev : Nat → Int} {i j : Nat} (h : DAll X lv mb rw st c s me ev j) (hij : i ≠ j) {t : Nat} (ht : t = 0 ∨ t = 1) (x : List UInt8) : DAll X lv mb rw st (upf c (2 * i + t) x) s me ev j := by
  unfold DAll at *
  rw [upf_ne _ _ (by omega), upf_ne _ _ (by omega)]
  exact h
/-- The first superblock of a disk of noughts. -/
theorem DAll.first {c : Nat → List UInt8} {s : Nat → Nat} {me ev : Nat → Int} {j : Nat} (h1 : c (2 * j + 1) = noughts64) (e : Int) : DAll X lv mb rw st (upf c (2 * j + 0) (tx lv mb rw st (me j) e)) (upf s j 1) me (upf ev j e) j := by
  unfold DAll
  rw [upf_self, upf_self, Nat.add_zero, upf_self, upf_ne _ _ (by omega), h1]
  exact .inl ⟨rfl, rfl, low_zero _⟩
end

/-- The members' states at an event. -/
def stg (mb gone : Int) (e : Int) (m : Nat) : Int := if (m : Int) < mb then (if 1 < e ∧ (m : Int) = gone then 2 else 1) else 0
theorem stg_ok {mb gone e : Int} : StOk mb (stg mb gone e) := by
  refine ⟨fun i _ h => ?_, fun i _ h => ?_, ?_⟩
  · unfold stg; rw [if_neg (by omega)]
  · unfold stg; rw [if_pos h]; split <;> simp
  · have key : ∀ i : Nat, outs mb (stg mb gone e) (i + 1) = outs mb (stg mb gone e) i + (if (i : Int) < mb ∧ 1 < e ∧ (i : Int) = gone then 1 else 0) := fun i => by
      simp only [outs]
      congr 1
      unfold stg
      by_cases h1 : (i : Int) < mb
      · by_cases h2 : 1 < e ∧ (i : Int) = gone
        · have h3 : gone < mb := h2.2 ▸ h1
          simp [h2, h3]
        · simp [h1, h2]
      · simp [h1]
    have le : ∀ i : Nat, outs mb (stg mb gone e) i ≤ (if gone < (i : Int) then 1 else 0) := by
      intro i
      induction i with
      | zero => simp [outs]
      | succ i ih =>
        rw [key]
        split at ih <;> split <;> split <;> omega
    have := le 4
    split at this <;> omega
theorem sok_of {lv mb rw gone me e : Int} (hg : GOk lv mb rw) (hm : 0 ≤ me ∧ me < mb) (he : 1 ≤ e ∧ e ≤ 1000) : SOk lv mb rw (stg mb gone) me e := by
  have := hg.sh
  exact ⟨by omega, hg, hm, by omega, by omega, stg_ok⟩
end Go.Proofs.Ytkpndnjhfocheaa
