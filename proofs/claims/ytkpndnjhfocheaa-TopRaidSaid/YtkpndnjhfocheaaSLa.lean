/- A frame logic of my own over the given wp rules: frames as association lists, the known blocks of memory as a list; structural rules. -/
import Derived.WalkKit
import Derived.StillTail
namespace Go.SL

abbrev Env := List (Nat × Value)
abbrev Hp := List (Nat × Obj)

def lk : Env → Nat → Option Value
  | [], _ => none
  | (k, v) :: r, t => match Nat.beq k t with
    | true => some v
    | false => lk r t

structure Fr (n : Nat) (a : Act) (E : Env) : Prop where
  size : a.tmps.size = n
  defers : a.defers = []
  slot : ∀ t v, lk E t = some v → a.tmps[t]? = some v

/-- What lies outside the heap, and must stay. -/
structure Outside where
  w0 : World
def Same (w w' : World) : Prop := w'.os = w.os ∧ w'.output = w.output ∧ w'.tape = w.tape
theorem Same.refl (w : World) : Same w w := ⟨rfl, rfl, rfl⟩
theorem Same.trans {a b c : World} (h : Same a b) (k : Same b c) : Same a c := ⟨k.1.trans h.1, k.2.1.trans h.2.1, k.2.2.trans h.2.2⟩

theorem Same.symm {a b : World} (h : Same a b) : Same b a := ⟨h.1.symm, h.2.1.symm, h.2.2.symm⟩

structure Own [X : Inhabited Outside] (w : World) (L : Hp) : Prop where
  nodup : (L.map Prod.fst).Nodup
  mem : ∀ b o, (b, o) ∈ L → w.heap[b]? = some o
  same : Same X.default.w0 w

structure Ext (w w' : World) : Prop where
  blk : ∀ (b : Nat) (o : Obj), w.heap[b]? = some o → w'.heap[b]? = some o
  same : Same w w'

theorem Ext.refl (w : World) : Ext w w := ⟨fun _ _ h => h, .refl w⟩
theorem Ext.trans {a b c : World} (h : Ext a b) (k : Ext b c) : Ext a c := ⟨fun i o e => k.blk i o (h.blk i o e), h.same.trans k.same⟩
theorem Own.ext [Inhabited Outside] {w w' : World} {L : Hp} (h : Own w L) (e : Ext w w') : Own w' L := ⟨h.nodup, fun b o m => e.blk b o (h.mem b o m), h.same.trans e.same⟩
theorem Ext.size {w w' : World} (e : Ext w w') : w.heap.size ≤ w'.heap.size := by
  rcases Nat.lt_or_ge w'.heap.size w.heap.size with h | h
  · exfalso
    have h1 : w.heap[w'.heap.size]? = some w.heap[w'.heap.size] := Array.getElem?_eq_getElem h
    have h2 := e.blk _ _ h1
    simp at h2
  · exact h

theorem lk_cons (k : Nat) (v : Value) (r : Env) (t : Nat) : lk ((k, v) :: r) t = if k = t then some v else lk r t := by
  by_cases h : k = t
  · subst h; simp [lk]
  · have : Nat.beq k t = false := Bool.eq_false_iff.2 fun hb => h (Nat.eq_of_beq_eq_true hb)
    simp only [lk, this, if_neg h]

theorem Fr.put {n : Nat} {a : Act} {E : Env} (h : Fr n a E) {d : Nat} (hd : Nat.blt d n = true) (v : Value) : Fr n (a.put (some d) v) ((d, v) :: E) := by
  have hd' : d < n := Nat.le_of_ble_eq_true hd
  refine ⟨by simp [Act.put, h.size], h.defers, fun t u ht => ?_⟩
  rw [lk_cons] at ht
  simp only [Act.put]
  by_cases e : d = t
  · subst e
    rw [if_pos rfl] at ht
    rw [Array.getElem?_setIfInBounds_self_of_lt (by rw [h.size]; exact hd')]
    exact ht
  · rw [if_neg e] at ht
    rw [Array.getElem?_setIfInBounds_ne e]
    exact h.slot t u ht

theorem Fr.sub {n : Nat} {a : Act} {E E' : Env} (h : Fr n a E) (hs : ∀ t v, lk E' t = some v → lk E t = some v) : Fr n a E' :=
  ⟨h.size, h.defers, fun t v ht => h.slot t v (hs t v ht)⟩

def Sub : Env → Env → Prop
  | [], _ => True
  | (t, v) :: r, E => lk E t = some v ∧ Sub r E

theorem Sub.lk {E' E : Env} (h : Sub E' E) : ∀ t v, lk E' t = some v → lk E t = some v := by
  induction E' with
  | nil => intro t v ht; simp [SL.lk] at ht
  | cons p r ih =>
    obtain ⟨k, u⟩ := p
    intro t v ht
    rw [lk_cons] at ht
    by_cases e : k = t
    · subst e; rw [if_pos rfl] at ht; rw [← ht]; exact h.1
    · rw [if_neg e] at ht; exact ih h.2 t v ht

def ev (E : Env) : Operand → Option Value
  | .tmp t => lk E t
  | .const v => some v
  | .global g => some (.pointer (some ⟨g, 0, none⟩))
  | .func f => some (.func (.func f) #[] #[])

theorem Fr.ev {n : Nat} {a : Act} {E : Env} (h : Fr n a E) {x : Operand} {v : Value} (hx : ev E x = some v) : a.eval x = v := by
  cases x with
  | tmp t =>
    have := h.slot t v hx
    simp [Act.eval, this]
  | const u => simpa [SL.ev, Act.eval] using hx
  | global g => simpa [SL.ev, Act.eval] using hx
  | func f => simpa [SL.ev, Act.eval] using hx

variable {X : Inhabited Outside}
/-- What one operation comes to. -/
def LeadsR (P : Program) (o : Oper) (a : Act) (w : World) (R : Value → World → Prop) : Prop :=
  match (execOp a.eval o).run P w with
  | .ok (.value v) w' => R v w'
  | .ok .skip w' => R undef w'
  | .ok (.enter f args) w' => Calls P f args w' (fun e w'' => ∃ v, e = .returned v ∧ R v w'')
  | _ => False

structure Leads (P : Program) (o : Oper) (a : Act) (w : World) (R : Value → World → Prop) : Prop where
  raw : LeadsR P o a w R

theorem Leads.mono {P : Program} {o : Oper} {a : Act} {w : World} {R R' : Value → World → Prop} (h : Leads P o a w R) (hr : ∀ v w', R v w' → R' v w') : Leads P o a w R' := by
  obtain ⟨h⟩ := h
  refine ⟨?_⟩
  unfold LeadsR at *
  generalize (execOp a.eval o).run P w = r at *
  cases r with
  | ok x w' => cases x <;> first | exact hr _ _ h | exact h.elim | exact h.mono fun e w'' ⟨v, he, hv⟩ => ⟨v, he, hr _ _ hv⟩
  | halt x w' => exact h.elim

theorem Leads.wp {P : Program} {o : Oper} {a : Act} {w : World} {R : Value → World → Prop} {K : Act → World → Prop} {Q : Exit → Act → World → Prop}
    (h : Leads P o a w R) (hk : ∀ v w', R v w' → K (a.put o.dst v) w') : o.wp P a w K Q := by
  obtain ⟨h⟩ := h
  unfold LeadsR at h
  unfold Oper.wp
  generalize (execOp a.eval o).run P w = r at *
  cases r with
  | ok x w' =>
    cases x <;> first
      | exact h.elim
      | exact hk _ _ h
      | (refine h.mono fun e w'' ⟨v, he, hv⟩ => ?_; subst he; exact hk _ _ hv)
  | halt x w' => exact h.elim

def WL [X : Inhabited Outside] (P : Program) (ops : List Oper) (Q : Exit → Act → World → Prop) (n : Nat) (l : List Oper) (E : Env) (L : Hp) : Prop :=
  ∀ a w, Fr n a E → Own w L → wpList P ops.toArray Q l a w
def WC [X : Inhabited Outside] (P : Program) (Q : Exit → Act → World → Prop) (n : Nat) (c : Code) (E : Env) (L : Hp) : Prop :=
  ∀ a w, Fr n a E → Own w L → c.wp P Q a w
def AT [X : Inhabited Outside] (Q : Exit → Act → World → Prop) (n : Nat) (e : Exit) (E : Env) (L : Hp) : Prop :=
  ∀ a w, Fr n a E → Own w L → Q e a w

section structural
variable {P : Program} {Q : Exit → Act → World → Prop} {n : Nat} {E : Env} {L : Hp} {ops rest : List Oper}

theorem wc_seq {x y : Code} (h : WC P (Exit.then (fun a w => y.wp P Q a w) Q) n x E L) : WC P Q n (.seq x y) E L :=
  fun a w hF hO => wp_seq (h a w hF hO)
theorem wc_block {id : Nat} {c : Code} (h : WC P (Exit.inBlock id Q) n c E L) : WC P Q n (.block id c) E L :=
  fun a w hF hO => wp_block (h a w hF hO)
theorem wc_skip (h : AT Q n .normal E L) : WC P Q n .skip E L := fun a w hF hO => wp_skip (h a w hF hO)
theorem wc_label {l : Nat} (h : AT Q n .normal E L) : WC P Q n (.label l) E L := fun a w hF hO => wp_label (h a w hF hO)
theorem wc_exit {id : Nat} (h : AT Q n (.exit id) E L) : WC P Q n (.exit id) E L := fun a w hF hO => wp_exit (h a w hF hO)
theorem wc_ret (h : AT Q n .ret E L) : WC P Q n .ret E L := fun a w hF hO => wp_ret (h a w hF hO)
theorem wc_region {id : Nat} {l : List Oper} (h : WL P l Q n l E L) : WC P Q n (.region id l.toArray false) E L :=
  fun a w hF hO => wp_region_lit (h a w hF hO)
theorem wl_nil (h : AT Q n .normal E L) : WL P ops Q n [] E L := fun a w hF hO => wpList_nil (h a w hF hO)

theorem at_then {y : Code} (h : WC P Q n y E L) : AT (Exit.then (fun a w => y.wp P Q a w) Q) n .normal E L := h
theorem at_then_ret {K : Act → World → Prop} (h : AT Q n .ret E L) : AT (Exit.then K Q) n .ret E L := h
theorem at_then_exit {K : Act → World → Prop} {i : Nat} (h : AT Q n (.exit i) E L) : AT (Exit.then K Q) n (.exit i) E L := h
theorem at_block_normal {i : Nat} (h : AT Q n .normal E L) : AT (Exit.inBlock i Q) n .normal E L := h
theorem at_block_ret {i : Nat} (h : AT Q n .ret E L) : AT (Exit.inBlock i Q) n .ret E L := h
theorem at_block_same {i : Nat} (h : AT Q n .normal E L) : AT (Exit.inBlock i Q) n (.exit i) E L := by
  intro a w hF hO
  simp only [Exit.inBlock, if_true]
  exact h a w hF hO
theorem at_block_other {i j : Nat} (hij : Nat.beq j i = false) (h : AT Q n (.exit j) E L) : AT (Exit.inBlock i Q) n (.exit j) E L := by
  have hne : j ≠ i := Nat.ne_of_beq_eq_false hij
  intro a w hF hO
  simp only [Exit.inBlock, if_neg hne]
  exact h a w hF hO

theorem wc_condT {c : Operand} {x y : Code} (hc : ev E c = some (.bool true)) (h : WC P Q n x E L) : WC P Q n (.cond c x y) E L :=
  fun a w hF hO => wp_cond_true (hF.ev hc) (h a w hF hO)
theorem wc_condF {c : Operand} {x y : Code} (hc : ev E c = some (.bool false)) (h : WC P Q n y E L) : WC P Q n (.cond c x y) E L :=
  fun a w hF hO => wp_cond_false (hF.ev hc) (h a w hF hO)
theorem wc_condD {c : Operand} {x y : Code} {p : Prop} [Decidable p] (hc : ev E c = some (.bool (decide p))) (hT : p → WC P Q n x E L) (hE : ¬ p → WC P Q n y E L) : WC P Q n (.cond c x y) E L := by
  intro a w hF hO
  by_cases h : p
  · exact wp_cond_true (by rw [hF.ev hc]; simp [h]) (hT h a w hF hO)
  · exact wp_cond_false (by rw [hF.ev hc]; simp [h]) (hE h a w hF hO)
theorem wc_condB {c : Operand} {x y : Code} {b : Bool} (hc : ev E c = some (.bool b)) (hT : b = true → WC P Q n x E L) (hE : b = false → WC P Q n y E L) : WC P Q n (.cond c x y) E L := by
  intro a w hF hO
  cases b
  · exact wp_cond_false (hF.ev hc) (hE rfl a w hF hO)
  · exact wp_cond_true (hF.ev hc) (hT rfl a w hF hO)

theorem wl_splitD (t : Nat) {l : List Oper} {p : Prop} [Decidable p] (ht : lk E t = some (.bool (decide p))) (hT : p → WL P ops Q n l ((t, .bool true) :: E) L) (hE : ¬ p → WL P ops Q n l ((t, .bool false) :: E) L) : WL P ops Q n l E L := by
  intro a w hF hO
  have key : ∀ b : Bool, decide p = b → Fr n a ((t, .bool b) :: E) := fun b hb => hF.sub fun s v hs => by
    rw [lk_cons] at hs
    by_cases e : t = s
    · subst e; rw [if_pos rfl] at hs; rw [ht, hb]; exact hs
    · rw [if_neg e] at hs; exact hs
  by_cases h : p
  · exact hT h a w (key true (by simp [h])) hO
  · exact hE h a w (key false (by simp [h])) hO
theorem wl_splitB (t : Nat) {l : List Oper} {b : Bool} (ht : lk E t = some (.bool b)) (hT : b = true → WL P ops Q n l ((t, .bool true) :: E) L) (hE : b = false → WL P ops Q n l ((t, .bool false) :: E) L) : WL P ops Q n l E L := by
  cases b
  · exact fun a w hF hO => hE rfl a w (hF.sub fun s v hs => by
      rw [lk_cons] at hs
      by_cases e : t = s
      · subst e; rw [if_pos rfl] at hs; rw [ht]; exact hs
      · rw [if_neg e] at hs; exact hs) hO
  · exact fun a w hF hO => hT rfl a w (hF.sub fun s v hs => by
      rw [lk_cons] at hs
      by_cases e : t = s
      · subst e; rw [if_pos rfl] at hs; rw [ht]; exact hs
      · rw [if_neg e] at hs; exact hs) hO
theorem wl_env {l : List Oper} (E' : Env) (hs : Sub E' E) (h : WL P ops Q n l E' L) : WL P ops Q n l E L := fun a w hF hO => h a w (hF.sub hs.lk) hO
theorem wc_env {c : Code} (E' : Env) (hs : Sub E' E) (h : WC P Q n c E' L) : WC P Q n c E L := fun a w hF hO => h a w (hF.sub hs.lk) hO

/-! one operation -/
theorem wl_leads {d : Nat} {op : Op} {ty : TypeId} {pos : String} {aft : Array Edge} {R : Value → Hp → Prop}
    (h : ∀ a w, Fr n a E → Own w L → Leads P ⟨some d, op, ty, pos, aft, none⟩ a w (fun v w' => ∃ L', R v L' ∧ Own w' L'))
    (hd : Nat.blt d n = true) (hk : ∀ v L', R v L' → WL P ops Q n rest ((d, v) :: E) L') :
    WL P ops Q n (⟨some d, op, ty, pos, aft, none⟩ :: rest) E L := by
  intro a w hF hO
  refine wpList_plain rfl fun K hK => ?_
  exact (h a w hF hO).wp fun v w' ⟨L', hR, hO'⟩ => hK _ _ (hk v L' hR _ _ (hF.put hd v) hO')
theorem wl_leads0 {op : Op} {ty : TypeId} {pos : String} {aft : Array Edge} {R : Value → Hp → Prop}
    (h : ∀ a w, Fr n a E → Own w L → Leads P ⟨none, op, ty, pos, aft, none⟩ a w (fun v w' => ∃ L', R v L' ∧ Own w' L'))
    (hk : ∀ v L', R v L' → WL P ops Q n rest E L') :
    WL P ops Q n (⟨none, op, ty, pos, aft, none⟩ :: rest) E L := by
  intro a w hF hO
  refine wpList_plain rfl fun K hK => ?_
  exact (h a w hF hO).wp fun v w' ⟨L', hR, hO'⟩ => hK _ _ (hk v L' hR _ _ hF hO')

/-- An operation that computes v in whatever world. -/
def Pu (P : Program) (n : Nat) (E : Env) (op : Op) (ty : TypeId) (v : Value) : Prop :=
  ∀ (dst : Option Tmp) (pos : String) (aft : Array Edge) (g : Option (Nat × Bool)) (a : Act), Fr n a E → ∀ w, (execOp a.eval ⟨dst, op, ty, pos, aft, g⟩).run P w = .ok (.value v) w
/-- An operation that reads v off the known blocks. -/
def Rd [X : Inhabited Outside] (P : Program) (n : Nat) (E : Env) (L : Hp) (op : Op) (ty : TypeId) (v : Value) : Prop :=
  ∀ (dst : Option Tmp) (pos : String) (aft : Array Edge) (g : Option (Nat × Bool)) (a : Act), Fr n a E → ∀ w, Own w L → (execOp a.eval ⟨dst, op, ty, pos, aft, g⟩).run P w = .ok (.value v) w
/-- Any operation. -/
def Do [X : Inhabited Outside] (P : Program) (n : Nat) (E : Env) (L : Hp) (op : Op) (ty : TypeId) (R : Value → Hp → Prop) : Prop :=
  ∀ (dst : Option Tmp) (pos : String) (aft : Array Edge) (g : Option (Nat × Bool)) (a : Act) (w : World), Fr n a E → Own w L → Leads P ⟨dst, op, ty, pos, aft, g⟩ a w (fun v w' => ∃ L', R v L' ∧ Own w' L')

variable {d : Nat} {op : Op} {ty : TypeId} {pos : String} {aft : Array Edge}

theorem Pu.rd {v : Value} (h : Pu P n E op ty v) : Rd P n E L op ty v := fun dst pos aft g a hF w _ => h dst pos aft g a hF w
theorem Rd.do_ {v : Value} (h : Rd P n E L op ty v) : Do P n E L op ty (fun u L' => u = v ∧ L' = L) := fun dst pos aft g a w hF hO => by
  refine ⟨?_⟩
  unfold LeadsR
  rw [h dst pos aft g a hF w hO]
  exact ⟨L, ⟨rfl, rfl⟩, hO⟩

theorem wl_do {R : Value → Hp → Prop} (h : Do P n E L op ty R) (hd : Nat.blt d n = true) (hk : ∀ v L', R v L' → WL P ops Q n rest ((d, v) :: E) L') :
    WL P ops Q n (⟨some d, op, ty, pos, aft, none⟩ :: rest) E L := wl_leads (fun a w hF hO => h _ _ _ _ a w hF hO) hd hk
theorem wl_do0 {R : Value → Hp → Prop} (h : Do P n E L op ty R) (hk : ∀ v L', R v L' → WL P ops Q n rest E L') :
    WL P ops Q n (⟨none, op, ty, pos, aft, none⟩ :: rest) E L := wl_leads0 (fun a w hF hO => h _ _ _ _ a w hF hO) hk
theorem wl_pu {v : Value} (h : Pu P n E op ty v) (hd : Nat.blt d n = true) (hk : WL P ops Q n rest ((d, v) :: E) L) :
    WL P ops Q n (⟨some d, op, ty, pos, aft, none⟩ :: rest) E L := wl_do h.rd.do_ hd (by rintro _ _ ⟨rfl, rfl⟩; exact hk)
theorem wl_rd {v : Value} (h : Rd P n E L op ty v) (hd : Nat.blt d n = true) (hk : WL P ops Q n rest ((d, v) :: E) L) :
    WL P ops Q n (⟨some d, op, ty, pos, aft, none⟩ :: rest) E L := wl_do h.do_ hd (by rintro _ _ ⟨rfl, rfl⟩; exact hk)

def dstAt : List Oper → Nat → Option Nat
  | [], _ => none
  | o :: _, 0 => o.dst
  | _ :: r, i + 1 => dstAt r i
theorem dstAt_eq : ∀ (l : List Oper) (i : Nat), dstAt l i = (l.toArray[i]?).bind (·.dst)
  | [], i => by simp [dstAt]
  | o :: r, 0 => by simp [dstAt]
  | o :: r, i + 1 => by simp [dstAt, dstAt_eq r i]

theorem yielded_of {a : Act} {j t : Nat} {b : Bool} (hF : Fr n a E) (hj : dstAt ops j = some t) (hb : lk E t = some (.bool b)) : yielded ops.toArray a.tmps j = some b := by
  unfold yielded
  rw [← dstAt_eq, hj]
  simp [hF.slot t _ hb]

theorem wl_gon {dst : Option Tmp} {j t : Nat} {b : Bool} (hj : dstAt ops j = some t) (hb : lk E t = some (.bool b))
    (h : WL P ops Q n (⟨dst, op, ty, pos, aft, none⟩ :: rest) E L) : WL P ops Q n (⟨dst, op, ty, pos, aft, some (j, b)⟩ :: rest) E L := by
  intro a w hF hO
  have h1 := h a w hF hO
  have hy := yielded_of hF hj hb
  simp only [wpList, Region.wanted, hy] at *
  simp only [beq_self_eq_true, if_true] at *
  exact h1
theorem wl_goff {j t : Nat} {b c : Bool} (hj : dstAt ops j = some t) (hb : lk E t = some (.bool b)) (hbc : (b == c) = false) (hd : Nat.blt d n = true)
    (h : WL P ops Q n rest ((d, undef) :: E) L) : WL P ops Q n (⟨some d, op, ty, pos, aft, some (j, c)⟩ :: rest) E L := by
  intro a w hF hO
  have hy := yielded_of hF hj hb
  have hne : (some b == some c) = false := by simpa using hbc
  simp only [wpList, Region.wanted, hy, hne]
  exact h _ _ (hF.put hd _) hO
end structural

/-! functions -/
def Post [X : Inhabited Outside] (R : Value → Hp → Prop) : Ending → World → Prop := fun e w' => ∃ v L', e = .returned v ∧ R v L' ∧ Own w' L'
def Ctr [X : Inhabited Outside] (P : Program) (f : FuncId) (vs : List Value) (L : Hp) (R : Value → Hp → Prop) : Prop :=
  ∀ w, Own w L → Calls P f vs.toArray w (Post R)

def envFrom : Nat → List Value → Env
  | _, [] => []
  | k, v :: r => (k, v) :: envFrom (k + 1) r

theorem lk_envFrom : ∀ (vs : List Value) (k t : Nat) (v : Value), lk (envFrom k vs) t = some v → k ≤ t ∧ vs[t - k]? = some v
  | [], k, t, v, h => by simp [envFrom, lk] at h
  | u :: r, k, t, v, h => by
    simp only [envFrom] at h
    rw [lk_cons] at h
    by_cases e : k = t
    · subst e; rw [if_pos rfl] at h; simpa using h
    · rw [if_neg e] at h
      obtain ⟨h1, h2⟩ := lk_envFrom r (k + 1) t v h
      refine ⟨by omega, ?_⟩
      rw [show t - k = (t - (k + 1)) + 1 by omega]
      simpa using h2

theorem Ctr.mono {P : Program} {f : FuncId} {vs : List Value} {L : Hp} {R R' : Value → Hp → Prop} (h : Ctr P f vs L R) (hr : ∀ v L', R v L' → R' v L') : Ctr P f vs L R' :=
  fun w hO => (h w hO).mono fun _ _ ⟨v, L', he, hR, hO'⟩ => ⟨v, L', he, hr v L' hR, hO'⟩

theorem spec_body {P : Program} {f : FuncId} {fn : Func} {c : Code} {n : Nat} {vs : List Value} {L : Hp} {R : Value → Hp → Prop}
    (hf : P.funcs[f]? = some fn) (hn : fn.ntmps = n) (hb : fn.body = some c) (hl : Nat.ble vs.length n = true)
    (h : WC P (bodyPost P fn (Post R)) n c (envFrom 0 vs) L) : Ctr P f vs L R := by
  intro w hO
  refine calls_of_wp hf hb (h _ _ ?_ hO)
  have hl' : vs.length ≤ n := Nat.le_of_ble_eq_true hl
  refine ⟨by simp [hn]; omega, rfl, fun t v ht => ?_⟩
  obtain ⟨_, h2⟩ := lk_envFrom vs 0 t v ht
  have h2' : vs[t]? = some v := by simpa using h2
  have hlt : t < vs.length := (List.getElem?_eq_some_iff.1 h2').1
  simp only [Array.getElem?_append, List.size_toArray, hlt, if_true]
  simpa using h2'

section rets
variable {P : Program} {n : Nat} {E : Env} {L : Hp} {fn : Func} {R : Value → Hp → Prop}
theorem at_ret1 {t : Nat} {v : Value} (hr : fn.results = #[.tmp t]) (ht : lk E t = some v) (hR : R v L) : AT (bodyPost P fn (Post R)) n .ret E L :=
  fun a w hF hO => bodyPost_ret (v := v) (by rw [results_tmp hr]; simp [hF.slot t v ht]) hF.defers ⟨v, L, rfl, hR, hO⟩
theorem at_ret2 {t u : Nat} {v x : Value} (hr : fn.results = #[.tmp t, .tmp u]) (ht : lk E t = some v) (hu : lk E u = some x) (hR : R (.tuple #[v, x]) L) : AT (bodyPost P fn (Post R)) n .ret E L :=
  fun a w hF hO => bodyPost_ret (v := .tuple #[v, x]) (by rw [results_tmp2 hr]; simp [hF.slot t v ht, hF.slot u x hu]) hF.defers ⟨_, L, rfl, hR, hO⟩
theorem at_ret3 {t u s : Nat} {v x y : Value} (hr : fn.results = #[.tmp t, .tmp u, .tmp s]) (ht : lk E t = some v) (hu : lk E u = some x) (hs : lk E s = some y) (hR : R (.tuple #[v, x, y]) L) : AT (bodyPost P fn (Post R)) n .ret E L :=
  fun a w hF hO => bodyPost_ret (v := .tuple #[v, x, y]) (by simp [results, hr, hF.slot t v ht, hF.slot u x hu, hF.slot s y hs]) hF.defers ⟨_, L, rfl, hR, hO⟩
theorem at_ret0 (hr : fn.results = #[]) (hR : R (.tuple #[]) L) : AT (bodyPost P fn (Post R)) n .ret E L :=
  fun _ _ hF hO => bodyPost_ret (v := .tuple #[]) (results_none hr _ _ _) hF.defers ⟨_, L, rfl, hR, hO⟩
theorem at_end0 (hr : fn.results = #[]) (hR : R (.tuple #[]) L) : AT (bodyPost P fn (Post R)) n .normal E L :=
  fun _ _ hF hO => bodyPost_end (v := .tuple #[]) (results_none hr _ _ _) hF.defers ⟨_, L, rfl, hR, hO⟩
end rets

/-! loops -/
theorem least {p : Nat → Prop} (h : ∃ m, p m) : ∃ m, p m ∧ ∀ k, p k → m ≤ k := by
  obtain ⟨m, hm⟩ := h
  induction m using Nat.strongRecOn with
  | _ m ih =>
    by_cases hx : ∃ k, k < m ∧ p k
    · obtain ⟨k, hk, hp⟩ := hx; exact ih k hk hp
    · exact ⟨m, hm, fun k hp => Nat.le_of_not_lt fun hlt => hx ⟨k, hlt, hp⟩⟩

/-- What a round has to come back to. -/
def Again [X : Inhabited Outside] {σ : Type} (I : σ → Prop) (μ : σ → Nat) (F : σ → Env) (H : σ → Hp) (n : Nat) (s : σ) : Act → World → Prop :=
  fun a w => ∃ s', I s' ∧ μ s' < μ s ∧ Fr n a (F s') ∧ Own w (H s')

theorem wc_loop {P : Program} {Q : Exit → Act → World → Prop} {n : Nat} {c : Code} {E : Env} {L : Hp} {σ : Type} (I : σ → Prop) (μ : σ → Nat) (F : σ → Env) (H : σ → Hp) (s0 : σ)
    (h0 : I s0) (hE : Sub (F s0) E) (hL : H s0 = L)
    (round : ∀ s, I s → WC P (Exit.then (Again I μ F H n s) Q) n c (F s) (H s)) : WC P Q n (.loop c) E L := by
  intro a w hF hO
  let J : Act → World → Nat → Prop := fun a w m => ∃ s, μ s = m ∧ I s ∧ Fr n a (F s) ∧ Own w (H s)
  let I' : Act → World → Prop := fun a w => ∃ m, J a w m
  have hex : ∃ ν : Act → World → Nat, ∀ a w, (∃ m, J a w m) → J a w (ν a w) ∧ ∀ k, J a w k → ν a w ≤ k := by
    have hall : ∀ a w, ∃ x, (∃ m, J a w m) → J a w x ∧ ∀ k, J a w k → x ≤ k := fun a w => by
      by_cases h : ∃ m, J a w m
      · obtain ⟨x, hx⟩ := least h; exact ⟨x, fun _ => hx⟩
      · exact ⟨0, fun h' => absurd h' h⟩
    exact ⟨fun a w => Classical.choose (hall a w), fun a w => Classical.choose_spec (hall a w)⟩
  obtain ⟨ν, hν⟩ := hex
  refine wp_loop I' ν ⟨_, s0, rfl, h0, hF.sub hE.lk, hL ▸ hO⟩ fun a w hI => ?_
  obtain ⟨⟨s, hs, hIs, hFs, hOs⟩, _⟩ := hν a w hI
  refine Code.wp_mono (fun e a' w' q => ?_) (round s hIs a w hFs hOs)
  cases e with
  | normal =>
    obtain ⟨s', hI', hlt, hF', hO'⟩ := q
    have hJ : J a' w' (μ s') := ⟨s', rfl, hI', hF', hO'⟩
    refine ⟨⟨_, hJ⟩, ?_⟩
    have hν' : ν a' w' ≤ μ s' := (hν a' w' ⟨_, hJ⟩).2 _ hJ
    omega
  | _ => exact q

theorem at_again {Q : Exit → Act → World → Prop} {n : Nat} {E : Env} {L : Hp} {σ : Type} {I : σ → Prop} {μ : σ → Nat} {F : σ → Env} {H : σ → Hp} {s : σ} (s' : σ)
    (hI : I s') (hμ : μ s' < μ s) (hE : Sub (F s') E) (hL : H s' = L) : AT (Exit.then (Again I μ F H n s) Q) n .normal E L :=
  fun _ _ hF hO => ⟨s', hI, hμ, hF.sub hE.lk, hL ▸ hO⟩

/-! the heap's list -/
section heap
variable {P : Program} {Q : Exit → Act → World → Prop} {n : Nat} {E : Env} {ops l : List Oper} {c : Code}

theorem Own.perm {w : World} {L L' : Hp} (h : Own w L) (p : L.Perm L') : Own w L' :=
  ⟨(p.map Prod.fst).nodup_iff.1 h.nodup, fun b o m => h.mem b o (p.mem_iff.2 m), h.same⟩
theorem Own.drop {w : World} {p : Nat × Obj} {L : Hp} (h : Own w (p :: L)) : Own w L :=
  ⟨(List.nodup_cons.1 h.nodup).2, fun b o m => h.mem b o (List.mem_cons_of_mem _ m), h.same⟩
theorem wl_perm {L L' : Hp} (p : L.Perm L') (h : WL P ops Q n l E L') : WL P ops Q n l E L := fun a w hF hO => h a w hF (hO.perm p)
theorem wc_perm {L L' : Hp} (p : L.Perm L') (h : WC P Q n c E L') : WC P Q n c E L := fun a w hF hO => h a w hF (hO.perm p)
theorem wl_drop {p : Nat × Obj} {L : Hp} (h : WL P ops Q n l E L) : WL P ops Q n l E (p :: L) := fun a w hF hO => h a w hF hO.drop
theorem wc_drop {p : Nat × Obj} {L : Hp} (h : WC P Q n c E L) : WC P Q n c E (p :: L) := fun a w hF hO => h a w hF hO.drop
theorem wl_heap {L : Hp} (L' : Hp) (e : L = L') (h : WL P ops Q n l E L') : WL P ops Q n l E L := e ▸ h
theorem wc_heap {L : Hp} (L' : Hp) (e : L = L') (h : WC P Q n c E L') : WC P Q n c E L := e ▸ h
theorem at_perm {e : Exit} {L L' : Hp} (p : L.Perm L') (h : AT Q n e E L') : AT Q n e E L := fun a w hF hO => h a w hF (hO.perm p)
theorem at_drop {e : Exit} {p : Nat × Obj} {L : Hp} (h : AT Q n e E L) : AT Q n e E (p :: L) := fun a w hF hO => h a w hF hO.drop
theorem at_heap {e : Exit} {L : Hp} (L' : Hp) (eq : L = L') (h : AT Q n e E L') : AT Q n e E L := eq ▸ h

variable {x0 x1 x2 x3 x4 x5 x6 : Nat × Obj} {L : Hp}
theorem p1 : (x0 :: x1 :: L).Perm (x1 :: x0 :: L) := List.Perm.swap _ _ _
theorem p2 : (x0 :: x1 :: x2 :: L).Perm (x2 :: x0 :: x1 :: L) := (List.Perm.cons _ p1).trans p1
theorem p3 : (x0 :: x1 :: x2 :: x3 :: L).Perm (x3 :: x0 :: x1 :: x2 :: L) := (List.Perm.cons _ p2).trans p1
theorem p4 : (x0 :: x1 :: x2 :: x3 :: x4 :: L).Perm (x4 :: x0 :: x1 :: x2 :: x3 :: L) := (List.Perm.cons _ p3).trans p1
theorem p5 : (x0 :: x1 :: x2 :: x3 :: x4 :: x5 :: L).Perm (x5 :: x0 :: x1 :: x2 :: x3 :: x4 :: L) := (List.Perm.cons _ p4).trans p1
theorem p6 : (x0 :: x1 :: x2 :: x3 :: x4 :: x5 :: x6 :: L).Perm (x6 :: x0 :: x1 :: x2 :: x3 :: x4 :: x5 :: L) := (List.Perm.cons _ p5).trans p1
end heap
end Go.SL
