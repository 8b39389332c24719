/- Regions that draw their order, order by order, in the frame logic. -/
import Derived.Test.YtkpndnjhfocheaaSLo
namespace Go.SL
variable {X : Inhabited Outside}
section
variable {P : Program} {Q : Exit → Act → World → Prop} {n : Nat} {E : Env} {L : Hp} {ops : List Oper} {f i j : Nat} {l : List Bool}
def WY [X : Inhabited Outside] (P : Program) (ops : List Oper) (Q : Exit → Act → World → Prop) (n f : Nat) (l : List Bool) (E : Env) (L : Hp) : Prop :=
  ∀ a w, Fr n a E → Own w L → wpAny P .any ops.toArray Q f l.toArray a w
def WO [X : Inhabited Outside] (P : Program) (ops : List Oper) (Q : Exit → Act → World → Prop) (n i f : Nat) (l : List Bool) (E : Env) (L : Hp) : Prop :=
  ∀ a w, Fr n a E → Own w L → wpOp P ops.toArray Q i (wpAny P .any ops.toArray Q f (l.set i true).toArray) a w
theorem wc_any {id : Nat} (hm : P.follows .mixedOrders = true) (h : WY P ops Q n ops.length (List.replicate ops.length false) E L) : WC P Q n (.region id ops.toArray true) E L := by
  intro a w hF hO
  refine wp_region_any hm ?_
  have := h a { w with drawn := w.drawn + 1 } hF ⟨hO.nodup, hO.mem, hO.same.trans ⟨rfl, rfl, rfl⟩⟩
  simpa using this
theorem wy_ready {is : List Nat} (hr : Region.ready .any ops.toArray l.toArray = is) (hne : is ≠ []) (h : ∀ i ∈ is, WO P ops Q n i f l E L) : WY P ops Q n (f + 1) l E L := by
  intro a w hF hO
  refine ⟨fun he => absurd (hr ▸ he) hne, fun i hi => ?_⟩
  have := h i (hr ▸ hi) a w hF hO
  rwa [← List.setIfInBounds_toArray] at this
theorem wy_1 (hr : Region.ready .any ops.toArray l.toArray = [i]) (h : WO P ops Q n i f l E L) : WY P ops Q n (f + 1) l E L := wy_ready hr (by simp) (by simpa using h)
theorem wy_2 (hr : Region.ready .any ops.toArray l.toArray = [i, j]) (h : WO P ops Q n i f l E L) (h' : WO P ops Q n j f l E L) : WY P ops Q n (f + 1) l E L := wy_ready hr (by simp) (by
  intro m hm
  simp at hm
  rcases hm with rfl | rfl
  · exact h
  · exact h')
theorem wy_nil (hr : Region.ready .any ops.toArray l.toArray = []) (h : AT Q n .normal E L) : WY P ops Q n f l E L := by
  intro a w hF hO
  cases f with
  | zero => exact ⟨hr, h a w hF hO⟩
  | succ f => exact ⟨fun _ => h a w hF hO, fun i hi => by rw [hr] at hi; cases hi⟩
variable {d : Nat} {op : Op} {ty : TypeId} {pos : String} {aft : Array Edge}
theorem wo_do {R : Value → Hp → Prop} (ho : ops[i]? = some ⟨some d, op, ty, pos, aft, none⟩) (h : Do P n E L op ty R) (hd : Nat.blt d n = true) (hk : ∀ v L', R v L' → WY P ops Q n f (l.set i true) ((d, v) :: E) L') : WO P ops Q n i f l E L := by
  intro a w hF hO
  unfold wpOp
  simp only [List.getElem?_toArray, ho, Region.wanted, if_true]
  exact .inl ((h (some d) pos aft none a w hF hO).wp fun v w' ⟨L', hR, hO'⟩ => hk v L' hR _ _ (hF.put hd v) hO')
theorem wo_do0 {R : Value → Hp → Prop} (ho : ops[i]? = some ⟨none, op, ty, pos, aft, none⟩) (h : Do P n E L op ty R) (hk : ∀ v L', R v L' → WY P ops Q n f (l.set i true) E L') : WO P ops Q n i f l E L := by
  intro a w hF hO
  unfold wpOp
  simp only [List.getElem?_toArray, ho, Region.wanted, if_true]
  exact .inl ((h none pos aft none a w hF hO).wp fun v w' ⟨L', hR, hO'⟩ => hk v L' hR _ _ hF hO')
theorem wo_pu {v : Value} (ho : ops[i]? = some ⟨some d, op, ty, pos, aft, none⟩) (h : Pu P n E op ty v) (hd : Nat.blt d n = true) (hk : WY P ops Q n f (l.set i true) ((d, v) :: E) L) : WO P ops Q n i f l E L :=
  wo_do ho h.rd.do_ hd (by rintro _ _ ⟨rfl, rfl⟩; exact hk)
theorem wo_rd {v : Value} (ho : ops[i]? = some ⟨some d, op, ty, pos, aft, none⟩) (h : Rd P n E L op ty v) (hd : Nat.blt d n = true) (hk : WY P ops Q n f (l.set i true) ((d, v) :: E) L) : WO P ops Q n i f l E L :=
  wo_do ho h.do_ hd (by rintro _ _ ⟨rfl, rfl⟩; exact hk)
theorem wy_heap {L : Hp} (L' : Hp) (e : L = L') (h : WY P ops Q n f l E L') : WY P ops Q n f l E L := e ▸ h
end
end Go.SL
