/- Regions that draw their order, order by order: what is pure comes first, without loss. -/
import Derived.Test.YtkpndnjhfocheaaSLq
namespace Go.SL
variable {X : Inhabited Outside}
section
variable {P : Program} {Q : Exit → Act → World → Prop} {n : Nat} {E : Env} {L : Hp} {ops : List Oper} {f i : Nat} {l : List Bool}
theorem wc_anyN {id : Nat} (hm : P.follows .mixedOrders = true) (h : WY P ops (NQ Q) n ops.length (List.replicate ops.length false) E L) : WC P Q n (.region id ops.toArray true) E L := by
  intro a w hF hO
  refine wp_mono (wp_region_any hm ?_) (fun e a w hq => ?_) (Q := NQ Q)
  · have := h a { w with drawn := w.drawn + 1 } hF ⟨hO.nodup, hO.mem, hO.same.trans ⟨rfl, rfl, rfl⟩⟩
    simpa using this
  · obtain ⟨rfl, hq⟩ := hq
    exact hq
variable {op : Op} {ty : TypeId} {pos : String} {aft : Array Edge} {d : Nat}
theorem wy_pu {v : Value} (ho : ops[i]? = some ⟨some d, op, ty, pos, aft, none⟩) (hc : (Region.noSelect ops.toArray && ((Region.ready .any ops.toArray l.toArray).contains i && Region.free .any ops.toArray l.toArray i)) = true)
    (h : Pu P n E op ty v) (hd : Nat.blt d n = true) (hk : WY P ops (NQ Q) n f (l.set i true) ((d, v) :: E) L) : WY P ops (NQ Q) n (f + 1) l E L := by
  intro a w hF hO
  simp only [Bool.and_eq_true] at hc
  have hk' := hk (a.put (some d) v) w (hF.put hd v) hO
  rw [← List.setIfInBounds_toArray] at hk'
  exact wpAny_first (i := i) (v := v) (by simpa using ho) (Region.noSelect_spec hc.1) (fun c b u hh => by cases hh.1) f _ a w (Region.free_spec (by simpa using ho) hc.2.2) (by simpa using hc.2.1)
    (.inl ⟨rfl, fun w => h _ _ _ _ a hF w⟩) hk'
theorem wy_puG {v : Value} {j t : Nat} {b : Bool} (hj : dstAt ops j = some t) (hb : lk E t = some (.bool b)) (ho : ops[i]? = some ⟨some d, op, ty, pos, aft, some (j, b)⟩) (hc : (Region.noSelect ops.toArray && ((Region.ready .any ops.toArray l.toArray).contains i && Region.free .any ops.toArray l.toArray i)) = true)
    (h : Pu P n E op ty v) (hd : Nat.blt d n = true) (hk : WY P ops (NQ Q) n f (l.set i true) ((d, v) :: E) L) : WY P ops (NQ Q) n (f + 1) l E L := by
  intro a w hF hO
  simp only [Bool.and_eq_true] at hc
  have hk' := hk (a.put (some d) v) w (hF.put hd v) hO
  rw [← List.setIfInBounds_toArray] at hk'
  exact wpAny_first (i := i) (v := v) (by simpa using ho) (Region.noSelect_spec hc.1) (fun c b u hh => by cases hh.1) f _ a w (Region.free_spec (by simpa using ho) hc.2.2) (by simpa using hc.2.1)
    (.inl ⟨by simp [Region.wanted, yielded_of hF hj hb], fun w => h _ _ _ _ a hF w⟩) hk'
theorem wy_off {j t : Nat} {b c : Bool} (hj : dstAt ops j = some t) (hb : lk E t = some (.bool b)) (hbc : (b == c) = false) (ho : ops[i]? = some ⟨some d, op, ty, pos, aft, some (j, c)⟩) (hc : (Region.noSelect ops.toArray && ((Region.ready .any ops.toArray l.toArray).contains i && Region.free .any ops.toArray l.toArray i)) = true)
    (hd : Nat.blt d n = true) (hk : WY P ops (NQ Q) n f (l.set i true) ((d, undef) :: E) L) : WY P ops (NQ Q) n (f + 1) l E L := by
  intro a w hF hO
  simp only [Bool.and_eq_true] at hc
  have hk' := hk (a.put (some d) undef) w (hF.put hd undef) hO
  rw [← List.setIfInBounds_toArray] at hk'
  have hne : (some b == some c) = false := by simpa using hbc
  exact wpAny_first (i := i) (v := undef) (by simpa using ho) (Region.noSelect_spec hc.1) (fun c b u hh => by cases hh.1) f _ a w (Region.free_spec (by simpa using ho) hc.2.2) (by simpa using hc.2.1)
    (.inr ⟨by simp [Region.wanted, yielded_of hF hj hb, hne], rfl⟩) hk'
theorem wo_doG {R : Value → Hp → Prop} {j t : Nat} {b : Bool} (hj : dstAt ops j = some t) (hb : lk E t = some (.bool b)) (ho : ops[i]? = some ⟨some d, op, ty, pos, aft, some (j, b)⟩) (h : Do P n E L op ty R) (hd : Nat.blt d n = true) (hk : ∀ v L', R v L' → WY P ops Q n f (l.set i true) ((d, v) :: E) L') : WO P ops Q n i f l E L := by
  intro a w hF hO
  unfold wpOp
  have hw : Region.wanted ⟨some d, op, ty, pos, aft, some (j, b)⟩ (yielded ops.toArray a.tmps) = true := by simp [Region.wanted, yielded_of hF hj hb]
  simp only [List.getElem?_toArray, ho, hw, if_true]
  exact .inl ((h (some d) pos aft (some (j, b)) a w hF hO).wp fun v w' ⟨L', hR, hO'⟩ => hk v L' hR _ _ (hF.put hd v) hO')
theorem wo_rdG {v : Value} {j t : Nat} {b : Bool} (hj : dstAt ops j = some t) (hb : lk E t = some (.bool b)) (ho : ops[i]? = some ⟨some d, op, ty, pos, aft, some (j, b)⟩) (h : Rd P n E L op ty v) (hd : Nat.blt d n = true) (hk : WY P ops Q n f (l.set i true) ((d, v) :: E) L) : WO P ops Q n i f l E L :=
  wo_doG hj hb ho h.do_ hd (by rintro _ _ ⟨rfl, rfl⟩; exact hk)
theorem wy_sub {E' : Env} (h : ∀ t v, lk E' t = some v → lk E t = some v) (hk : WY P ops Q n f l E' L) : WY P ops Q n f l E L := fun a w hF hO => hk a w (hF.sub h) hO
theorem wy_is (t : Nat) {b c : Bool} (ht : lk E t = some (.bool b)) (hb : b = c) (hk : WY P ops Q n f l ((t, .bool c) :: E) L) : WY P ops Q n f l E L :=
  wy_sub (fun s v hs => by
    rw [lk_cons] at hs
    by_cases e : t = s
    · subst e; rw [if_pos rfl] at hs; rw [ht, hb]; exact hs
    · rw [if_neg e] at hs; exact hs) hk
theorem wy_isT (t : Nat) {p : Prop} [Decidable p] (ht : lk E t = some (.bool (decide p))) (hp : p) (hk : WY P ops Q n f l ((t, .bool true) :: E) L) : WY P ops Q n f l E L := wy_is t ht (by simp [hp]) hk
theorem wy_isF (t : Nat) {p : Prop} [Decidable p] (ht : lk E t = some (.bool (decide p))) (hp : ¬ p) (hk : WY P ops Q n f l ((t, .bool false) :: E) L) : WY P ops Q n f l E L := wy_is t ht (by simp [hp]) hk
theorem wy_perm {L L' : Hp} (p : L.Perm L') (h : WY P ops Q n f l E L') : WY P ops Q n f l E L := fun a w hF hO => h a w hF (hO.perm p)
theorem wy_drop {x : Nat × Obj} {L : Hp} (h : WY P ops Q n f l E L) : WY P ops Q n f l E (x :: L) := fun a w hF hO => h a w hF hO.drop
theorem wy_dropL {A L : Hp} (h : WY P ops Q n f l E L) : WY P ops Q n f l E (A ++ L) := fun a w hF hO => h a w hF hO.dropL
end
end Go.SL
