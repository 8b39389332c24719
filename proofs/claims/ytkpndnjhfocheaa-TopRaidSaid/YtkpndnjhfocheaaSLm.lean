/- Maps in the frame logic: a map's block as a list of keys and values; made, looked up, written, ranged over. -/
import Derived.Test.YtkpndnjhfocheaaSLl
import Derived.Maps.RangeRun
import Derived.Maps.Keyed
namespace Go.SL
open Go.Maps
variable {X : Inhabited Outside}

section pure_
variable {K : Type}
def ents (κ : K → Value) : Nat → List (K × Value) → List MapEntry
  | _, [] => []
  | i, (k, v) :: r => { key := κ k, val := v, born := i } :: ents κ (i + 1) r
abbrev mrow (κ : K → Value) (l : List (K × Value)) : Obj := .map ⟨ents κ 0 l⟩ l.length
abbrev itr (m n : Nat) (seen : List Nat) : Obj := .mapIter (some m) n ⟨seen⟩ n

theorem ents_length (κ : K → Value) : ∀ (i : Nat) (l : List (K × Value)), (ents κ i l).length = l.length
  | _, [] => rfl
  | i, (k, v) :: r => by simp [ents, ents_length κ (i + 1) r]
theorem ents_get (κ : K → Value) : ∀ (i j : Nat) (l : List (K × Value)), (ents κ i l)[j]? = (l[j]?).map fun p => { key := κ p.1, val := p.2, born := i + j }
  | _, _, [] => by simp [ents]
  | i, 0, (k, v) :: r => by simp [ents]
  | i, j + 1, (k, v) :: r => by simp [ents, ents_get κ (i + 1) j r, Nat.add_assoc, Nat.add_comm 1 j]
theorem ents_append (κ : K → Value) (i : Nat) (l : List (K × Value)) (k : K) (v : Value) : ents κ i (l ++ [(k, v)]) = ents κ i l ++ [{ key := κ k, val := v, born := i + l.length }] := by
  apply List.ext_getElem?
  intro j
  rw [ents_get]
  rcases Nat.lt_trichotomy j l.length with h | h | h
  · rw [List.getElem?_append_left h, List.getElem?_append_left (by rw [ents_length]; exact h), ents_get]
  · subst h
    rw [List.getElem?_append_right (Nat.le_refl _), List.getElem?_append_right (by rw [ents_length]; exact Nat.le_refl _), ents_length]
    simp
  · rw [List.getElem?_eq_none (by simp; omega), List.getElem?_eq_none (by simp [ents_length]; omega)]; rfl
theorem ents_set (κ : K → Value) (i j : Nat) (l : List (K × Value)) (k : K) (v : Value) (h : j < l.length) : ents κ i (l.set j (k, v)) = (ents κ i l).set j { key := κ k, val := v, born := i + j } := by
  apply List.ext_getElem?
  intro m
  rw [ents_get, List.getElem?_set, List.getElem?_set, ents_length]
  by_cases e : j = m
  · subst e; simp [h]
  · rw [if_neg e, if_neg e, ents_get]
theorem ents_born (κ : K → Value) (i : Nat) (l : List (K × Value)) : ∀ x ∈ ents κ i l, i ≤ x.born ∧ x.born < i + l.length := by
  intro x hx
  obtain ⟨j, hj⟩ := List.getElem?_of_mem hx
  rw [ents_get] at hj
  have hl : j < l.length := by
    rcases Nat.lt_or_ge j l.length with h | h
    · exact h
    · rw [List.getElem?_eq_none h] at hj; simp at hj
  rw [List.getElem?_eq_getElem hl] at hj
  simp at hj
  rw [← hj]
  exact ⟨Nat.le_add_right _ _, by show i + j < _; omega⟩
theorem ents_nodup (κ : K → Value) : ∀ (i : Nat) (l : List (K × Value)), ((ents κ i l).map (·.born)).Nodup
  | _, [] => by simp [ents]
  | i, (k, v) :: r => by
    simp only [ents, List.map_cons, List.nodup_cons]
    refine ⟨fun h => ?_, ents_nodup κ (i + 1) r⟩
    obtain ⟨x, hx, he⟩ := List.mem_map.1 h
    have := (ents_born κ (i + 1) r x hx).1
    omega

/-- A map's list is right: its keys may be, and none twice. -/
structure MOk (ok : K → Prop) (l : List (K × Value)) : Prop where
  ok : ∀ p ∈ l, ok p.1
  nodup : (l.map Prod.fst).Nodup
theorem MOk.nil (ok : K → Prop) : MOk ok [] := ⟨by simp, by simp⟩

variable [DecidableEq K]
/-- Where a key lies, and its value. -/
def posn (k : K) : List (K × Value) → Nat → Option (Nat × Value)
  | [], _ => none
  | (a, v) :: r, i => if k = a then some (i, v) else posn k r (i + 1)
def mget (k : K) : List (K × Value) → Option Value
  | [] => none
  | (a, v) :: r => if k = a then some v else mget k r
def mput (k : K) (v : Value) : List (K × Value) → List (K × Value)
  | [] => [(k, v)]
  | (a, u) :: r => if k = a then (a, v) :: r else (a, u) :: mput k v r
theorem posn_none {k : K} : ∀ {l : List (K × Value)} {i : Nat}, posn k l i = none → (∀ p ∈ l, p.1 ≠ k) ∧ mget k l = none ∧ ∀ v, mput k v l = l ++ [(k, v)]
  | [], _, _ => ⟨by simp, rfl, fun _ => rfl⟩
  | (a, v) :: r, i, h => by
    simp only [posn] at h
    by_cases e : k = a
    · rw [if_pos e] at h; cases h
    · rw [if_neg e] at h
      obtain ⟨h1, h2, h3⟩ := posn_none h
      refine ⟨fun p hp => ?_, by simp [mget, e, h2], fun v' => by simp [mput, e, h3]⟩
      rcases List.mem_cons.1 hp with rfl | hp
      · exact fun e' => e e'.symm
      · exact h1 p hp
theorem posn_some {k : K} {j : Nat} {v : Value} : ∀ {l : List (K × Value)} {i : Nat}, posn k l i = some (j, v) → i ≤ j ∧ l[j - i]? = some (k, v) ∧ mget k l = some v ∧ ∀ u, mput k u l = l.set (j - i) (k, u)
  | [], _, h => by simp [posn] at h
  | (a, u) :: r, i, h => by
    simp only [posn] at h
    by_cases e : k = a
    · rw [if_pos e] at h
      simp at h
      obtain ⟨rfl, rfl⟩ := h
      subst e
      simp [mget, mput]
    · rw [if_neg e] at h
      obtain ⟨h1, h2, h3, h4⟩ := posn_some h
      have : j - i = (j - (i + 1)) + 1 := by omega
      refine ⟨by omega, by rw [this]; simpa using h2, by simp [mget, e, h3], fun w => ?_⟩
      rw [this]
      simp [mput, e, h4]
theorem posn_of {k : K} {v : Value} : ∀ {l : List (K × Value)} {i j : Nat}, (l.map Prod.fst).Nodup → l[j]? = some (k, v) → posn k l i = some (i + j, v)
  | [], _, _, _, h => by simp at h
  | (a, u) :: r, i, 0, _, h => by simp at h; simp [posn, h.1, h.2]
  | (a, u) :: r, i, j + 1, hn, h => by
    simp only [List.getElem?_cons_succ] at h
    simp only [List.map_cons, List.nodup_cons] at hn
    have hne : k ≠ a := fun e => hn.1 (List.mem_map.2 ⟨_, List.mem_of_getElem? h, by exact e⟩)
    rw [posn, if_neg hne, posn_of hn.2 h]
    congr 2; omega
theorem posn_iff {k : K} {l : List (K × Value)} {i : Nat} (h : ∀ p ∈ l, p.1 ≠ k) : posn k l i = none := by
  cases hp : posn k l i with
  | none => rfl
  | some p =>
    obtain ⟨j, v⟩ := p
    exact absurd rfl (h _ (List.mem_of_getElem? (posn_some hp).2.1))
theorem mput_fst {k : K} {v : Value} : ∀ {l : List (K × Value)}, ∀ p ∈ mput k v l, p.1 = k ∨ ∃ q ∈ l, q.1 = p.1
  | [], p, hp => by simp [mput] at hp; exact .inl (by rw [hp])
  | (a, u) :: r, p, hp => by
    simp only [mput] at hp
    by_cases e : k = a
    · rw [if_pos e] at hp
      rcases List.mem_cons.1 hp with rfl | hp
      · exact .inl e.symm
      · exact .inr ⟨p, List.mem_cons_of_mem _ hp, rfl⟩
    · rw [if_neg e] at hp
      rcases List.mem_cons.1 hp with rfl | hp
      · exact .inr ⟨_, List.mem_cons_self, rfl⟩
      · rcases mput_fst p hp with h | ⟨q, hq, h⟩
        · exact .inl h
        · exact .inr ⟨q, List.mem_cons_of_mem _ hq, h⟩
theorem MOk.put {ok : K → Prop} {k : K} {v : Value} : ∀ {l : List (K × Value)}, MOk ok l → ok k → MOk ok (mput k v l)
  | [], _, hk => ⟨by simp [mput, hk], by simp [mput]⟩
  | (a, u) :: r, h, hk => by
    have hn := h.nodup
    simp only [List.map_cons, List.nodup_cons] at hn
    have hr : MOk ok r := ⟨fun p hp => h.ok p (List.mem_cons_of_mem _ hp), hn.2⟩
    have ha := h.ok (a, u) List.mem_cons_self
    simp only [mput]
    by_cases e : k = a
    · rw [if_pos e]
      refine ⟨fun p hp => ?_, by simpa using hn⟩
      rcases List.mem_cons.1 hp with rfl | hp
      · exact ha
      · exact hr.ok p hp
    · rw [if_neg e]
      have ih := MOk.put (v := v) hr hk
      refine ⟨fun p hp => ?_, ?_⟩
      · rcases List.mem_cons.1 hp with rfl | hp
        · exact ha
        · exact ih.ok p hp
      · simp only [List.map_cons, List.nodup_cons]
        refine ⟨fun hm => ?_, ih.nodup⟩
        obtain ⟨p, hp, he⟩ := List.mem_map.1 hm
        rcases mput_fst p hp with h1 | ⟨q, hq, h1⟩
        · exact e (h1.symm.trans he)
        · exact hn.1 (List.mem_map.2 ⟨q, hq, h1.trans he⟩)
theorem mget_put (k a : K) (v : Value) : ∀ l : List (K × Value), mget a (mput k v l) = if a = k then some v else mget a l
  | [] => by by_cases h : a = k <;> simp [mput, mget, h]
  | (b, u) :: r => by
    simp only [mput]
    by_cases e : k = b
    · subst e
      rw [if_pos rfl]
      by_cases h : a = k <;> simp [mget, h]
    · rw [if_neg e]
      simp only [mget, mget_put k a v r]
      by_cases h : a = b
      · subst h; simp [Ne.symm e]
      · simp [h]
end pure_

/-- What the laws need of a key's type. -/
structure KeyT (P : Program) (kt : TypeId) {K : Type} [DecidableEq K] (κ : K → Value) (ok : K → Prop) : Prop where
  check : ∀ w b k, ok k → (Instr.checkKey b 10000 kt (κ k)).run P w = .ok () w
  find : ∀ w k l, ok k → MOk ok l → (Instr.findKey kt (κ k) (ents κ 0 l)).run P w = .ok (posn k l 0) w
  stays : ∀ w k, ok k → (Instr.keyThatStays (κ k) (κ k)).run P w = .ok (κ k) w

theorem KeyT.of_keyed {P : Program} {kt : TypeId} {K : Type} [DecidableEq K] {κ : K → Value} {ok : K → Prop} (H : Keyed P kt) (hk : ∀ k, ok k → ∃ l, keyOf P kt (κ k) = some l) (inj : ∀ a b, κ a = κ b → a = b) : KeyT P kt κ ok where
  check w b k h := by obtain ⟨l, hl⟩ := hk k h; exact H.check w b hl
  stays w k h := by obtain ⟨l, hl⟩ := hk k h; exact H.stays w hl
  find w k l h hm := by
    obtain ⟨lk, hl⟩ := hk k h
    have hes : ∀ e ∈ ents κ 0 l, ∃ l, keyOf P kt e.key = some l := fun e he => by
      obtain ⟨j, hj⟩ := List.getElem?_of_mem he
      rw [ents_get] at hj
      cases hp : l[j]? with
      | none => rw [hp] at hj; cases hj
      | some p =>
        rw [hp] at hj
        simp at hj
        rw [← hj]
        exact hk _ (hm.ok p (List.mem_of_getElem? hp))
    rcases H.find w hl (ents κ 0 l) hes with ⟨h1, h2⟩ | ⟨j, e, h1, h2, h3⟩
    · rw [h1, posn_iff]
      intro p hp e
      obtain ⟨j, hj⟩ := List.getElem?_of_mem hp
      have : (ents κ 0 l)[j]? = some { key := κ p.1, val := p.2, born := 0 + j } := by rw [ents_get, hj]; rfl
      exact h2 _ (List.mem_of_getElem? this) (by rw [← e])
    · rw [h1]
      rw [ents_get] at h2
      cases hp : l[j]? with
      | none => rw [hp] at h2; cases h2
      | some p =>
        rw [hp] at h2
        simp at h2
        subst h2
        have : p.1 = k := inj _ _ h3
        obtain ⟨a, v⟩ := p
        subst this
        rw [posn_of hm.nodup hp]
        simp

def i64ok (a : Int) : Prop := -9223372036854775808 ≤ a ∧ a ≤ 9223372036854775807
theorem KeyT.int {P : Program} {kt : TypeId} (hk : P.underlying kt = some (.int .i64)) : KeyT P kt int i64ok :=
  .of_keyed (int_keyed hk) (fun k h => ⟨_, keyOf_int_mk hk (by simp [Lit.wf, IntKind.min, IntKind.max, IntKind.bits, IntKind.signed]; exact h)⟩) (fun a b h => by simpa using h)

section
variable {P : Program} {n : Nat} {E : Env} {L : Hp} {ty T T' : TypeId} {x y z : Operand} {K : Type} {κ : K → Value} {ok : K → Prop} {kt e : TypeId}

theorem run_look [DecidableEq K] {w : World} {b : Nat} {l : List (K × Value)} {k : K} {c : Bool} {u : Value} (Ky : KeyT P kt κ ok) (ht : P.underlying T = some (.map kt e)) (hz : zeroB P e u) (hk : ok k) (hl : MOk ok l) (hb : w.heap[b]? = some (mrow κ l)) :
    (Instr.lookup T (.map (some b)) (κ k) c).run P w = .ok (if c then .tuple #[(mget k l).getD u, .bool (mget k l).isSome] else (mget k l).getD u) w := by
  have hzz := fun w => run_zeroValue (w := w) hz
  have hf := Ky.find w k l hk hl
  have hg : (getObj b).run P w = .ok (mrow κ l) w := by simp [getObj, Sem.run, hb]
  cases hp : posn k l 0 with
  | none =>
    rw [hp] at hf
    have h2 := (posn_none hp).2.1
    cases c <;> simp [Instr.lookup, run_underlying ht, hg, Ky.check w _ k hk, hf, hzz, h2]
  | some p =>
    obtain ⟨j, v⟩ := p
    rw [hp] at hf
    have h2 := (posn_some hp).2.2.1
    cases c <;> simp [Instr.lookup, run_underlying ht, hg, Ky.check w _ k hk, hf, h2]
theorem y_look [DecidableEq K] (i : Nat) {b : Nat} {l : List (K × Value)} {k : K} {u : Value} (Ky : KeyT P kt κ ok) (ht : P.underlying T = some (.map kt e)) (hz : zeroB P e u) (hk : ok k) (hl : MOk ok l) (hx : ev E x = some (.map (some b))) (hy : ev E y = some (κ k)) (hL : nth L i = some (b, mrow κ l)) :
    Rd P n E L (.lookup T x y false) ty ((mget k l).getD u) := fun _ _ _ _ a hF w hO => by
  simp only [execOp, hF.ev hx, hF.ev hy]
  rw [Sem.run_bind, run_look Ky ht hz hk hl (hO.mem b _ (nth_mem hL))]
  simp
theorem y_lookOk [DecidableEq K] (i : Nat) {b : Nat} {l : List (K × Value)} {k : K} {u : Value} (Ky : KeyT P kt κ ok) (ht : P.underlying T = some (.map kt e)) (hz : zeroB P e u) (hk : ok k) (hl : MOk ok l) (hx : ev E x = some (.map (some b))) (hy : ev E y = some (κ k)) (hL : nth L i = some (b, mrow κ l)) :
    Rd P n E L (.lookup T x y true) ty (.tuple #[(mget k l).getD u, .bool (mget k l).isSome]) := fun _ _ _ _ a hF w hO => by
  simp only [execOp, hF.ev hx, hF.ev hy]
  rw [Sem.run_bind, run_look Ky ht hz hk hl (hO.mem b _ (nth_mem hL))]
  simp
theorem y_lenM (i : Nat) {ts kt e : TypeId} {b : Nat} {l : List (K × Value)} (hu : P.underlying ts = some (.map kt e)) (hx : ev E x = some (.map (some b))) (hL : nth L i = some (b, mrow κ l)) : Rd P n E L (.call ⟨.builtin .len, #[x], #[ts]⟩) ty (int l.length) := fun _ _ _ _ a hF w hO => by
  have hg : (getObj b).run P w = .ok (mrow κ l) w := by simp [getObj, Sem.run, hO.mem b _ (nth_mem hL)]
  simp only [execOp, resolve, List.map_toArray, List.map_cons, List.map_nil, hF.ev hx]
  simp [invoke, builtin, Builtin.len_, run_underlying hu, goInt, hg, ents_length]
theorem d_makeMap : Do P n E L (.makeMap T none) ty (fun u L' => ∃ b, u = .map (some b) ∧ L' = (b, .map #[] 0) :: L) := fun _ _ _ _ a w _ hO =>
  leads_value (v := .map (some w.heap.size)) (w' := w.alloc (.map #[] 0)) (by simp only [execOp]; simp [Instr.makeMap, newObj, Sem.run]) ⟨_, ⟨_, rfl, rfl⟩, hO.alloc _⟩

theorem run_setObjM {w : World} {b : Nat} {es : Array MapEntry} {c : Nat} (hb : w.heap[b]? = some (.map es c)) (o : Obj) : (setObj b o).run P w = .ok () (ChangeMaps.setBlock w b o) := by
  simp [setObj, Sem.run, hb, ChangeMaps.setBlock]
theorem Own.setB {w : World} {i b : Nat} {o0 : Obj} (h : Own w L) (hL : nth L i = some (b, o0)) (o : Obj) : Own (ChangeMaps.setBlock w b o) (setAt L i o) := by
  have hlt := h.lt (nth_mem hL)
  refine h.set hL ?_ (fun k hk => ?_) ⟨rfl, rfl, rfl⟩
  · show (w.heap.setIfInBounds b o)[b]? = some o
    rw [Array.getElem?_setIfInBounds_self_of_lt hlt]
  · show (w.heap.setIfInBounds b o)[k]? = _
    rw [Array.getElem?_setIfInBounds_ne (Ne.symm hk)]

theorem modify_set (l : List (K × Value)) (j : Nat) (k : K) (v v' : Value) (hj : l[j]? = some (k, v)) : (⟨ents κ 0 l⟩ : Array MapEntry).modify j (fun e => { e with key := κ k, val := v' }) = ⟨ents κ 0 (l.set j (k, v'))⟩ := by
  have hlt : j < l.length := (List.getElem?_eq_some_iff.1 hj).1
  apply Array.ext'
  rw [ents_set _ _ _ _ _ _ hlt, Array.toList_modify]
  apply List.ext_getElem?
  intro m
  rw [List.getElem?_modify, List.getElem?_set, ents_length, ents_get]
  by_cases e : j = m
  · subst e; simp [hlt]
  · simp [e]

theorem d_mapUpdate [DecidableEq K] (i : Nat) {b : Nat} {l : List (K × Value)} {k : K} {v : Value} (Ky : KeyT P kt κ ok) (ht : P.underlying T = some (.map kt e)) (hk : ok k) (hl : MOk ok l) (hx : ev E x = some (.map (some b))) (hy : ev E y = some (κ k)) (hz : ev E z = some v) (hL : nth L i = some (b, mrow κ l)) :
    Do P n E L (.mapUpdate T x y z) ty (fun _ L' => L' = setAt L i (mrow κ (mput k v l))) := fun _ _ _ _ a w hF hO => by
  have hb := hO.mem b _ (nth_mem hL)
  have hf := Ky.find w k l hk hl
  have hg : (getObj b).run P w = .ok (mrow κ l) w := by simp [getObj, Sem.run, hb]
  have hr : (Instr.mapUpdate T (.map (some b)) (κ k) v).run P w = .ok () (ChangeMaps.setBlock w b (mrow κ (mput k v l))) := by
    cases hp : posn k l 0 with
    | none =>
      rw [hp] at hf
      rw [(posn_none hp).2.2 v]
      simp [Instr.mapUpdate, run_underlying ht, hg, Ky.check w _ k hk, hf, run_setObjM hb, mrow, ents_append]
    | some p =>
      obtain ⟨j, u⟩ := p
      rw [hp] at hf
      obtain ⟨_, h2, _, h4⟩ := posn_some hp
      rw [Nat.sub_zero] at h2 h4
      rw [h4 v]
      have hkey : (((⟨ents κ 0 l⟩ : Array MapEntry)[j]?).map (·.key)).getD (κ k) = κ k := by simp [ents_get, h2]
      simp only [Instr.mapUpdate, run_underlying ht, hg, Ky.check w _ k hk, hf, Sem.run_bind, Result.andThen_ok, hkey, Ky.stays w k hk]
      rw [run_setObjM hb, modify_set l j k u v h2]
      simp [mrow]
  exact leads_skip (by simp only [execOp, hF.ev hx, hF.ev hy, hF.ev hz]; simp [hr]) ⟨_, rfl, hO.setB hL _⟩

theorem d_mapEntry [DecidableEq K] (i : Nat) {b : Nat} {l : List (K × Value)} {k : K} {u : Value} (Ky : KeyT P kt κ ok) (ht : P.underlying T = some (.map kt e)) (hz : zeroB P e u) (hk : ok k) (hl : MOk ok l) (hx : ev E x = some (.map (some b))) (hy : ev E y = some (κ k)) (hL : nth L i = some (b, mrow κ l)) :
    Do P n E L (.mapEntry T x y) ty (fun r L' => ∃ j : Nat, r = .tuple #[(mget k l).getD u, int j] ∧ L' = setAt L i (mrow κ (mput k ((mget k l).getD u) l)) ∧ (mput k ((mget k l).getD u) l)[j]? = some (k, (mget k l).getD u) ∧ ∀ v, (mput k ((mget k l).getD u) l).set j (k, v) = mput k v l) := fun _ _ _ _ a w hF hO => by
  have hb := hO.mem b _ (nth_mem hL)
  have hf := Ky.find w k l hk hl
  have hg : (getObj b).run P w = .ok (mrow κ l) w := by simp [getObj, Sem.run, hb]
  cases hp : posn k l 0 with
  | none =>
    rw [hp] at hf
    have hr : (Instr.mapEntry T (.map (some b)) (κ k)).run P w = .ok (.tuple #[u, goInt l.length]) (ChangeMaps.setBlock w b (mrow κ (l ++ [(k, u)]))) := by
      simp [Instr.mapEntry, run_underlying ht, hg, Ky.check w _ k hk, hf, run_setObjM hb, mrow, ents_append, run_zeroValue hz]
    have e2 : (mget k l).getD u = u := by rw [(posn_none hp).2.1]; rfl
    have e1 : mput k ((mget k l).getD u) l = l ++ [(k, u)] := by rw [e2, (posn_none hp).2.2]
    exact leads_value (v := .tuple #[u, goInt l.length]) (w' := ChangeMaps.setBlock w b (mrow κ (l ++ [(k, u)]))) (by simp only [execOp, hF.ev hx, hF.ev hy]; simp [hr]) ⟨setAt L i (mrow κ (l ++ [(k, u)])), ⟨l.length, by rw [e2]; rfl, by rw [e1], by rw [e1, e2]; simp, fun v => by rw [e1, (posn_none hp).2.2]; simp⟩, hO.setB hL _⟩
  | some p =>
    obtain ⟨j, v⟩ := p
    rw [hp] at hf
    obtain ⟨_, h2, h3, h4⟩ := posn_some hp
    rw [Nat.sub_zero] at h2 h4
    have hset : l.set j (k, v) = l := by
      apply List.ext_getElem?
      intro m
      rw [List.getElem?_set]
      by_cases e : j = m
      · subst e
        have hlt : j < l.length := (List.getElem?_eq_some_iff.1 h2).1
        simp [hlt]
        rw [List.getElem?_eq_getElem hlt] at h2
        exact (Option.some.inj h2).symm
      · simp [e]
    have hkey : (((⟨ents κ 0 l⟩ : Array MapEntry)[j]?).map (·.key)).getD (κ k) = κ k := by simp [ents_get, h2]
    have hmod : (⟨ents κ 0 l⟩ : Array MapEntry).modify j (fun e => { e with key := κ k }) = ⟨ents κ 0 l⟩ := by
      apply Array.ext'
      rw [Array.toList_modify]
      apply List.ext_getElem?
      intro m
      rw [List.getElem?_modify, ents_get]
      by_cases e : j = m
      · subst e; simp [h2]
      · simp [e]
    have hr : (Instr.mapEntry T (.map (some b)) (κ k)).run P w = .ok (.tuple #[v, goInt j]) (ChangeMaps.setBlock w b (mrow κ l)) := by
      simp only [Instr.mapEntry, run_underlying ht, hg, Ky.check w _ k hk, hf, Sem.run_bind, Result.andThen_ok, hkey, Ky.stays w k hk, hmod]
      rw [run_setObjM hb]
      simp [mrow, ents_get, h2]
    have e2 : (mget k l).getD u = v := by rw [h3]; rfl
    have e1 : mput k ((mget k l).getD u) l = l := by rw [e2, h4, hset]
    exact leads_value (v := .tuple #[v, goInt j]) (w' := ChangeMaps.setBlock w b (mrow κ l)) (by simp only [execOp, hF.ev hx, hF.ev hy]; simp [hr]) ⟨setAt L i (mrow κ l), ⟨j, by rw [e2]; rfl, by rw [e1], by rw [e1, e2]; exact h2, fun v => by rw [e1, h4]⟩, hO.setB hL _⟩

theorem d_entryStore (i j : Nat) {b : Nat} {l : List (K × Value)} {k : K} {v u : Value} (hj : l[j]? = some (k, v)) (hx : ev E x = some (.map (some b))) (hy : ev E y = some (int j)) (hz : ev E z = some u) (hL : nth L i = some (b, mrow κ l)) :
    Do P n E L (.entryStore T x y z) ty (fun _ L' => L' = setAt L i (mrow κ (l.set j (k, u)))) := fun _ _ _ _ a w hF hO => by
  have hb := hO.mem b _ (nth_mem hL)
  have hg : (getObj b).run P w = .ok (mrow κ l) w := by simp [getObj, Sem.run, hb]
  have hlt : j < l.length := (List.getElem?_eq_some_iff.1 hj).1
  have hfind : (⟨ents κ 0 l⟩ : Array MapEntry).findIdx? (fun e => (e.born : Int) == (j : Int)) = some j := by
    rw [Array.findIdx?_eq_some_iff_getElem]
    refine ⟨by simpa [ents_length] using hlt, ?_, fun m hm => ?_⟩
    · have : (⟨ents κ 0 l⟩ : Array MapEntry)[j]? = some { key := κ k, val := v, born := 0 + j } := by simp [ents_get, hj]
      obtain ⟨h1, h2⟩ := Array.getElem?_eq_some_iff.1 this
      rw [h2]; simp
    · have hlm : m < l.length := by omega
      have : (⟨ents κ 0 l⟩ : Array MapEntry)[m]? = some { key := κ l[m].1, val := l[m].2, born := 0 + m } := by simp [ents_get, hlm]
      obtain ⟨h1, h2⟩ := Array.getElem?_eq_some_iff.1 this
      rw [h2]
      simp; omega
  have hmod : (⟨ents κ 0 l⟩ : Array MapEntry).modify j (fun e => { e with val := u }) = ⟨ents κ 0 (l.set j (k, u))⟩ := by
    apply Array.ext'
    rw [ents_set _ _ _ _ _ _ hlt, Array.toList_modify]
    apply List.ext_getElem?
    intro m
    rw [List.getElem?_modify, List.getElem?_set, ents_length, ents_get]
    have hj' : l[j] = (k, v) := by rw [List.getElem?_eq_getElem hlt] at hj; exact Option.some.inj hj
    by_cases e : j = m
    · subst e; simp [hj', hlt]
    · simp [e]
  have hr : (Instr.entryStore T (.map (some b)) (int j) u).run P w = .ok () (ChangeMaps.setBlock w b (mrow κ (l.set j (k, u)))) := by
    simp only [Instr.entryStore, hg, Sem.run_bind, Result.andThen_ok, asInt, asIntOf, Sem.run_pure, hfind]
    rw [run_setObjM hb, hmod]
    simp [mrow]
  exact leads_skip (by simp only [execOp, hF.ev hx, hF.ev hy, hF.ev hz]; simp [hr]) ⟨_, rfl, hO.setB hL _⟩

theorem d_range (i : Nat) {b : Nat} {l : List (K × Value)} (ht : P.underlying T = some (.map kt e)) (hx : ev E x = some (.map (some b))) (hL : nth L i = some (b, mrow κ l)) :
    Do P n E L (.range T x) ty (fun u L' => ∃ r, u = ptr r 0 ∧ L' = (r, itr b l.length []) :: L) := fun _ _ _ _ a w hF hO =>
  leads_value (v := ptr w.heap.size 0) (w' := w.alloc (itr b l.length [])) (by simp only [execOp, hF.ev hx]; rw [Sem.run_bind, run_range_map w T kt e b _ _ ht (hO.mem b _ (nth_mem hL))]; rfl) ⟨_, ⟨_, rfl, rfl⟩, hO.alloc _⟩

theorem d_next (i j : Nat) {b r : Nat} {l : List (K × Value)} {seen : List Nat} (hx : ev E x = some (ptr r 0)) (hL : nth L i = some (r, itr b l.length seen)) (hM : nth L j = some (b, mrow κ l)) :
    Do P n E L (.next x false) ty (fun u L' => (u = .tuple #[.bool false] ∧ L' = L ∧ ∀ m, m < l.length → m ∈ seen) ∨ ∃ m k v, l[m]? = some (k, v) ∧ m ∉ seen ∧ u = .tuple #[.bool true, κ k, v] ∧ L' = setAt L i (itr b l.length (seen ++ [m]))) := fun _ _ _ _ a w hF hO => by
  have hr := hO.mem r _ (nth_mem hL)
  have hb := hO.mem b _ (nth_mem hM)
  have hold : ∀ x ∈ (⟨ents κ 0 l⟩ : Array MapEntry).toList, x.born < l.length := fun x hx => by have := (ents_born κ 0 l x hx).2; omega
  rcases run_next_at (P := P) w ty r b l.length l.length ⟨seen⟩ ⟨ents κ 0 l⟩ l.length hr hb hold (Nat.le_refl _) with ⟨h0, hrun⟩ | ⟨e, he, w1, hal, hrun⟩
  · refine leads_value (by simp only [execOp, hF.ev hx]; rw [Sem.run_bind, hrun]; rfl) ⟨_, .inl ⟨rfl, rfl, fun m hm => ?_⟩, hO⟩
    have hmem : (⟨κ l[m].1, l[m].2, 0 + m⟩ : MapEntry) ∈ (⟨ents κ 0 l⟩ : Array MapEntry).toList := List.mem_of_getElem? (by show (ents κ 0 l)[m]? = _; rw [ents_get, List.getElem?_eq_getElem hm]; rfl)
    have := all_seen _ _ h0 _ hmem
    simpa using this
  · obtain ⟨hem, hes⟩ := mem_left he
    obtain ⟨m, hm⟩ := List.getElem?_of_mem hem
    rw [show (⟨ents κ 0 l⟩ : Array MapEntry).toList = ents κ 0 l from rfl, ents_get] at hm
    cases hp : l[m]? with
    | none => rw [hp] at hm; cases hm
    | some p =>
      obtain ⟨k, v⟩ := p
      rw [hp] at hm
      simp at hm
      subst hm
      have hO1 : Own w1 L := by
        rcases hal with rfl | rfl
        · exact hO
        · exact hO.drew
      refine leads_value (by simp only [execOp, hF.ev hx]; rw [Sem.run_bind, hrun]; rfl) ⟨_, .inr ⟨m, k, v, hp, ?_, rfl, rfl⟩, ?_⟩
      · simpa using hes
      · have := hO1.setB hL (itr b l.length (seen ++ [m]))
        simpa using this
theorem y_entry (i j m : Nat) {b r : Nat} {l : List (K × Value)} {seen : List Nat} {k : K} {v : Value} (hm : l[m]? = some (k, v)) (hx : ev E x = some (ptr r 0)) (hL : nth L i = some (r, itr b l.length (seen ++ [m]))) (hM : nth L j = some (b, mrow κ l)) :
    Rd P n E L (.entry x) ty (.tuple #[κ k, v]) := fun _ _ _ _ a hF w hO => by
  have hr := hO.mem r _ (nth_mem hL)
  have hb := hO.mem b _ (nth_mem hM)
  have h1 : w.heap[r]? = some (.mapIter (some b) l.length ((⟨seen⟩ : Array Nat).push m) l.length) := by rw [hr]; simp
  have hmem : (⟨κ k, v, m⟩ : MapEntry) ∈ (⟨ents κ 0 l⟩ : Array MapEntry).toList := List.mem_of_getElem? (by show (ents κ 0 l)[m]? = _; rw [ents_get, hm]; simp)
  have := run_entry_at (P := P) w r b l.length ⟨seen⟩ ⟨ents κ 0 l⟩ l.length ⟨κ k, v, m⟩ h1 hb hmem (ents_nodup κ 0 l)
  simp only [execOp, hF.ev hx]
  rw [Sem.run_bind, this]; rfl
end
end Go.SL
