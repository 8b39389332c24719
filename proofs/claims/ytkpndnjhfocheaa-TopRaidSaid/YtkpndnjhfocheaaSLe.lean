/- Regions that draw their order, in the frame logic: one walk in the order of the text serves every order. -/
import Derived.Test.YtkpndnjhfocheaaSLd
namespace Go.SL
variable {X : Inhabited Outside}

inductive PE where
  | pure (v : Value)
  | rd (v : Value)
  | gh (T : Value → World → Prop)

def wts (o : Oper) : List Nat := (o.after.toList.filter (Region.binds .any)).map (·.on)
def wAt : List Oper → Nat → List Nat
  | [], _ => []
  | o :: _, 0 => wts o
  | _ :: r, i + 1 => wAt r i
def looks (ops : List Oper) (o : Oper) : List Tmp := o.looksAt ops.toArray
def lAt (ops : List Oper) : List Oper → Nat → List Tmp
  | [], _ => []
  | o :: _, 0 => looks ops o
  | _ :: r, i + 1 => lAt ops r i
def reach (ops : List Oper) : Nat → Nat → Nat → Bool
  | 0, _, _ => false
  | f + 1, t, j => (wAt ops t).any fun m => m == j || reach ops f m j
def isPure : PE → Bool
  | .pure _ => true
  | _ => false
def pureAt : List PE → Nat → Bool
  | [], _ => false
  | p :: _, 0 => isPure p
  | _ :: r, i + 1 => pureAt r i

/-- What the evaluator asks of a region: its first k operations are the head. -/
def drawB (ops : List Oper) (k n : Nat) (pl : List PE) : Bool :=
  Region.noSelect ops.toArray && decide (k ≤ ops.length) && decide (pl.length = k) &&
  ((List.range k).all fun i => (wAt ops i).all fun j => decide (j < i)) &&
  ((List.range k).all fun i => (List.range k).all fun j => match dstAt ops j with
    | some d => Nat.blt d n && (i == j || dstAt ops i != some d) && (!(lAt ops ops i).contains d || (decide (j < i) && (wAt ops i).contains j))
    | none => true) &&
  ((List.range (ops.length - k)).all fun t => (List.range k).all fun j => pureAt pl j || reach ops ops.length (k + t) j) &&
  ((List.range k).all fun i => !pureAt pl i || Region.free .any ops.toArray (List.replicate i true ++ List.replicate (ops.length - i) false).toArray i) &&
  Region.seqB .any ops.toArray (ops.length - k) k (List.replicate k true ++ List.replicate (ops.length - k) false).toArray

def extE (E : Env) (dst : Option Tmp) (v : Value) : Env := match dst with
  | some d => (d, v) :: E
  | none => E

abbrev Ghs := List (Nat × Value × (Value → World → Prop))

def wantedIn (ops : List Oper) (o : Oper) (a : Act) : Bool := Region.wanted o (yielded ops.toArray a.tmps)

/-- One operation in the order of the text: i its number, E the frame there, G what is known of the new blocks so far. -/
def StepG [X : Inhabited Outside] (P : Program) (ops : List Oper) (n : Nat) (L : Hp) (o : Oper) (E : Env) (G : Ghs) (T : Value → World → Prop) : Prop :=
  ∀ a w, Fr n a E → Own w L → (∀ j g U, (j, g, U) ∈ G → j ∈ wts o → U g w) →
    (wantedIn ops o a = true ∧ Leads P o a w (fun u w' => Ext w w' ∧ T u w')) ∨ (wantedIn ops o a = false ∧ T undef w)

def HW [X : Inhabited Outside] (P : Program) (ops : List Oper) (n : Nat) (L : Hp) (K : Env → Ghs → Prop) : List Oper → List PE → Env → Ghs → Nat → Prop
  | _, [], E, G, _ => K E G
  | o :: rest, .pure v :: pl, E, G, i => (∀ a, Fr n a E → Yields P ops.toArray o v a) ∧ HW P ops n L K rest pl (extE E o.dst v) G (i + 1)
  | o :: rest, .rd v :: pl, E, G, i => StepG P ops n L o E G (fun u _ => u = v) ∧ HW P ops n L K rest pl (extE E o.dst v) G (i + 1)
  | o :: rest, .gh T :: pl, E, G, i => (∀ g w w', Ext w w' → T g w → T g w') ∧ StepG P ops n L o E G T ∧ ∀ g, HW P ops n L K rest pl (extE E o.dst g) ((i, g, T) :: G) (i + 1)
  | [], _ :: _, _, _, _ => False

def envOf (ops : List Oper) (vals : Nat → Value) (E0 : Env) : Nat → Env
  | 0 => E0
  | i + 1 => extE (envOf ops vals E0 i) (dstAt ops i) (vals i)
def ghOf (pl : List PE) (vals : Nat → Value) : Nat → Ghs
  | 0 => []
  | i + 1 => match pl[i]? with
    | some (.gh T) => (i, vals i, T) :: ghOf pl vals i
    | _ => ghOf pl vals i

def Agree (pl : List PE) (vals : Nat → Value) : Prop := ∀ i v, (pl[i]? = some (.pure v) ∨ pl[i]? = some (.rd v)) → vals i = v

section
variable {P : Program} {ops : List Oper} {n : Nat} {L : Hp} {K : Env → Ghs → Prop} {pl0 : List PE} {E0 : Env}

/-- What the walk gives of each operation, whatever the new blocks are. -/
theorem hw_all (vals : Nat → Value) (hA : Agree pl0 vals) : ∀ (l : List Oper) (pl : List PE) (i : Nat), (∀ j, l[j]? = ops[i + j]?) → (∀ j, pl[j]? = pl0[i + j]?) →
    HW P ops n L K l pl (envOf ops vals E0 i) (ghOf pl0 vals i) i →
    (∀ j o, ops[j]? = some o → i ≤ j → (∀ v, pl0[j]? = some (.pure v) → ∀ a, Fr n a (envOf ops vals E0 j) → Yields P ops.toArray o v a) ∧
      (∀ v, pl0[j]? = some (.rd v) → StepG P ops n L o (envOf ops vals E0 j) (ghOf pl0 vals j) (fun u _ => u = v)) ∧
      (∀ T, pl0[j]? = some (.gh T) → (∀ g w w', Ext w w' → T g w → T g w') ∧ StepG P ops n L o (envOf ops vals E0 j) (ghOf pl0 vals j) T)) ∧
    K (envOf ops vals E0 (i + pl.length)) (ghOf pl0 vals (i + pl.length))
  | l, [], i, _, hp, h => by
    refine ⟨fun j o _ hij => ?_, by simpa [HW] using h⟩
    have hnone : pl0[j]? = none := by
      have := hp (j - i)
      rw [show i + (j - i) = j by omega] at this
      simpa using this.symm
    simp [hnone]
  | [], p :: pl, i, _, _, h => by simp [HW] at h
  | o :: l, p :: pl, i, hl, hp, h => by
    have ho : ops[i]? = some o := by simpa using (hl 0).symm
    have hpi : pl0[i]? = some p := by simpa using (hp 0).symm
    have hl' : ∀ j, l[j]? = ops[i + 1 + j]? := fun j => by have := hl (j + 1); simpa [Nat.add_assoc, Nat.add_comm 1 j] using this
    have hp' : ∀ j, pl[j]? = pl0[i + 1 + j]? := fun j => by have := hp (j + 1); simpa [Nat.add_assoc, Nat.add_comm 1 j] using this
    have hd : dstAt ops i = o.dst := by rw [dstAt_eq]; simp [ho]
    have key : HW P ops n L K l pl (envOf ops vals E0 (i + 1)) (ghOf pl0 vals (i + 1)) (i + 1) ∧
        ((∀ v, p = .pure v → ∀ a, Fr n a (envOf ops vals E0 i) → Yields P ops.toArray o v a) ∧
          (∀ v, p = .rd v → StepG P ops n L o (envOf ops vals E0 i) (ghOf pl0 vals i) (fun u _ => u = v)) ∧
          (∀ T, p = .gh T → (∀ g w w', Ext w w' → T g w → T g w') ∧ StepG P ops n L o (envOf ops vals E0 i) (ghOf pl0 vals i) T)) := by
      simp only [envOf, ghOf, hpi, hd]
      cases p with
      | pure v =>
        rw [hA i v (.inl hpi)]
        exact ⟨h.2, fun u hu => by cases hu; exact h.1, fun u hu => (by cases hu), fun u hu => (by cases hu)⟩
      | rd v =>
        rw [hA i v (.inr hpi)]
        exact ⟨h.2, fun u hu => (by cases hu), fun u hu => by cases hu; exact h.1, fun u hu => (by cases hu)⟩
      | gh T => exact ⟨h.2.2 (vals i), fun u hu => (by cases hu), fun u hu => (by cases hu), fun u hu => by cases hu; exact ⟨h.1, h.2.1⟩⟩
    obtain ⟨hrest, hthis⟩ := key
    obtain ⟨r1, r2⟩ := hw_all vals hA l pl (i + 1) hl' hp' hrest
    refine ⟨fun j oj hoj hij => ?_, by simpa [Nat.add_assoc, Nat.add_comm 1] using r2⟩
    by_cases e : j = i
    · subst e
      rw [ho] at hoj
      cases hoj
      simp only [hpi, Option.some.injEq]
      exact hthis
    · exact r1 j oj hoj (by omega)
end

section main
variable {P : Program} {ops : List Oper} {n k : Nat} {L : Hp} {pl : List PE} {E0 : Env} {a0 : Act}

def fillA (ops : List Oper) (vals : Nat → Value) (a0 : Act) : Nat → Act
  | 0 => a0
  | i + 1 => (fillA ops vals a0 i).put (dstAt ops i) (vals i)

structure Good (ops : List Oper) (k n : Nat) (pl : List PE) : Prop where
  sel : Region.noSelect ops.toArray = true
  kle : k ≤ ops.length
  len : pl.length = k
  back : ∀ i, i < k → ∀ j ∈ wAt ops i, j < i
  dst : ∀ i j d, i < k → j < k → dstAt ops j = some d → d < n ∧ (i = j ∨ dstAt ops i ≠ some d) ∧ (d ∈ lAt ops ops i → j < i ∧ j ∈ wAt ops i)
  tails : ∀ t j, k ≤ t → t < ops.length → j < k → pureAt pl j = false → reach ops ops.length t j = true
  free : ∀ i, i < k → pureAt pl i = true → Region.free .any ops.toArray (List.replicate i true ++ List.replicate (ops.length - i) false).toArray i = true
  seq : Region.seqB .any ops.toArray (ops.length - k) k (List.replicate k true ++ List.replicate (ops.length - k) false).toArray = true

theorem good_of (h : drawB ops k n pl = true) : Good ops k n pl := by
  unfold drawB at h
  simp only [Bool.and_eq_true, decide_eq_true_eq, List.all_eq_true, List.mem_range] at h
  obtain ⟨⟨⟨⟨⟨⟨⟨h1, h2⟩, h3⟩, h4⟩, h5⟩, h6⟩, h7⟩, h8⟩ := h
  refine ⟨h1, h2, h3, h4, fun i j d hi hj hd => ?_, fun t j ht hl hj hp => ?_, fun i hi hp => ?_, h8⟩
  · have := h5 i hi j hj
    rw [hd] at this
    simp only [Bool.and_eq_true, Bool.or_eq_true, beq_iff_eq, bne_iff_ne, ne_eq, Bool.not_eq_true', decide_eq_true_eq] at this
    obtain ⟨⟨g1, g2⟩, g3⟩ := this
    refine ⟨Nat.le_of_ble_eq_true g1, g2, fun hm => ?_⟩
    rcases g3 with g3 | g3
    · rw [List.contains_iff_mem.2 hm] at g3; cases g3
    · exact ⟨g3.1, List.contains_iff_mem.1 g3.2⟩
  · have := h6 (t - k) (by omega) j hj
    rw [show k + (t - k) = t by omega] at this
    simpa [hp] using this
  · have := h7 i hi
    simpa [hp] using this

theorem wAt_eq (ops : List Oper) (i : Nat) (o : Oper) (h : ops[i]? = some o) : wAt ops i = wts o := by
  induction ops generalizing i with
  | nil => simp at h
  | cons x r ih => cases i with
    | zero => simp at h; simp [wAt, h]
    | succ i => simp at h; simp [wAt, ih i h]
theorem lAt_eq (all ops : List Oper) (i : Nat) (o : Oper) (h : ops[i]? = some o) : lAt all ops i = looks all o := by
  induction ops generalizing i with
  | nil => simp at h
  | cons x r ih => cases i with
    | zero => simp at h; simp [lAt, h]
    | succ i => simp at h; simp [lAt, ih i h]

theorem ready_iff (l : Array Bool) (j : Nat) : j ∈ Region.ready .any ops.toArray l ↔ l.getD j true = false ∧ j < ops.length ∧ ∀ m ∈ wAt ops j, l.getD m false = true := by
  rw [mem_ready]
  constructor
  · rintro ⟨h1, o, ho, h2⟩
    have ho' : ops[j]? = some o := by simpa using ho
    refine ⟨h1, (List.getElem?_eq_some_iff.1 ho').1, fun m hm => ?_⟩
    rw [wAt_eq ops j o ho', wts, List.mem_map] at hm
    obtain ⟨e, he, rfl⟩ := hm
    rw [List.mem_filter] at he
    exact h2 e (by simpa using he.1) he.2
  · rintro ⟨h1, h2, h3⟩
    refine ⟨h1, ops[j], by simp [h2], fun e he hb => ?_⟩
    refine h3 _ ?_
    rw [wAt_eq ops j ops[j] (by simp [h2]), wts]
    exact List.mem_map.2 ⟨e, List.mem_filter.2 ⟨by simpa using he, hb⟩, rfl⟩

theorem reach_listed (l : Array Bool) (hc : ∀ i j, l.getD i false = true → j ∈ wAt ops i → l.getD j false = true) : ∀ (f t j : Nat), (∀ m ∈ wAt ops t, l.getD m false = true) → reach ops f t j = true → l.getD j false = true
  | 0, _, _, _, h => by simp [reach] at h
  | f + 1, t, j, ht, h => by
    simp only [reach, List.any_eq_true, Bool.or_eq_true, beq_iff_eq] at h
    obtain ⟨m, hm, h | h⟩ := h
    · subst h; exact ht m hm
    · exact reach_listed l hc f m j (fun x hx => hc m x (ht m hm) hx) h

theorem wpAny_more {Q : Exit → Act → World → Prop} {opsA : Array Oper} {md : Region.Mode} : ∀ (f : Nat) (l : Array Bool) (a : Act) (w : World), wpAny P md opsA Q f l a w → wpAny P md opsA Q (f + 1) l a w
  | 0, _, _, _, h => wpAny_done h.1 h.2 1
  | f + 1, _, _, _, h => ⟨h.1, fun i hi => wpOp_mono (fun a' w' h' => wpAny_more f _ a' w' h') (h.2 i hi)⟩
theorem wpAny_most {Q : Exit → Act → World → Prop} {opsA : Array Oper} {md : Region.Mode} {l : Array Bool} {a : Act} {w : World} {f g : Nat} (h : f ≤ g) (hw : wpAny P md opsA Q f l a w) : wpAny P md opsA Q g l a w := by
  induction h with
  | refl => exact hw
  | step _ ih => exact wpAny_more _ _ _ _ ih

theorem filter_lt {l : List Nat} {p q : Nat → Bool} (h : ∀ x ∈ l, q x = true → p x = true) {x : Nat} (hx : x ∈ l) (hp : p x = true) (hq : q x = false) : (l.filter q).length < (l.filter p).length := by
  induction l with
  | nil => simp at hx
  | cons y r ih =>
    have hle : ∀ {r : List Nat}, (∀ x ∈ r, q x = true → p x = true) → (r.filter q).length ≤ (r.filter p).length := fun {r} hr => by
      induction r with
      | nil => simp
      | cons z r ih =>
        have := ih (fun x hx => hr x (List.mem_cons_of_mem _ hx))
        have hz := hr z List.mem_cons_self
        simp only [List.filter_cons]
        cases hqz : q z
        · cases p z <;> simp <;> omega
        · simp [hz hqz]; omega
    have hr := hle (fun x hx => h x (List.mem_cons_of_mem _ hx))
    simp only [List.filter_cons]
    rcases List.mem_cons.1 hx with rfl | hm
    · simp [hp, hq]; omega
    · have := ih (fun x hx => h x (List.mem_cons_of_mem _ hx)) hm
      have hy := h y List.mem_cons_self
      cases hqy : q y
      · cases p y <;> simp <;> omega
      · simp [hy hqy]; omega

structure J [X : Inhabited Outside] (P : Program) (ops : List Oper) (k n : Nat) (L : Hp) (pl : List PE) (a0 : Act) (vals : Nat → Value) (l : Array Bool) (a : Act) (w : World) : Prop where
  size : l.size = ops.length
  tail : ∀ t, k ≤ t → l.getD t false = false
  closed : ∀ i j, l.getD i false = true → j ∈ wAt ops i → l.getD j false = true
  asize : a.tmps.size = n
  adef : a.defers = []
  old : ∀ t, (∀ i, i < k → l.getD i false = true → dstAt ops i ≠ some t) → a.tmps[t]? = a0.tmps[t]?
  new : ∀ i d, i < k → l.getD i false = true → dstAt ops i = some d → a.tmps[d]? = some (vals i)
  own : Own w L
  agree : Agree pl vals
  ghs : ∀ i T, pl[i]? = some (.gh T) → l.getD i false = true → T (vals i) w

theorem fillA_other (vals : Nat → Value) : ∀ (i t : Nat), (∀ j, j < i → dstAt ops j ≠ some t) → (fillA ops vals a0 i).tmps[t]? = a0.tmps[t]?
  | 0, _, _ => rfl
  | i + 1, t, h => by
    have ih := fillA_other vals i t (fun j hj => h j (by omega))
    have hne := h i (by omega)
    simp only [fillA]
    cases hd : dstAt ops i with
    | none => simpa [Act.put] using ih
    | some d =>
      have : d ≠ t := fun e => hne (by rw [hd, e])
      simp only [Act.put, Array.getElem?_setIfInBounds_ne this]
      exact ih
theorem fillA_size (vals : Nat → Value) : ∀ i, (fillA ops vals a0 i).tmps.size = a0.tmps.size
  | 0 => rfl
  | i + 1 => by
    simp only [fillA]
    cases dstAt ops i <;> simp [Act.put, fillA_size vals i]
theorem fillA_defers (vals : Nat → Value) : ∀ i, (fillA ops vals a0 i).defers = a0.defers
  | 0 => rfl
  | i + 1 => by
    simp only [fillA]
    cases dstAt ops i <;> simp [Act.put, fillA_defers vals i]
theorem fillA_dst (hG : Good ops k n pl) (hn : a0.tmps.size = n) (vals : Nat → Value) : ∀ (i : Nat), i ≤ k → ∀ (j d : Nat), j < i → dstAt ops j = some d → (fillA ops vals a0 i).tmps[d]? = some (vals j)
  | 0, _, _, _, h, _ => by omega
  | i + 1, hi, j, d, hj, hd => by
    simp only [fillA]
    by_cases e : j = i
    · subst e
      have hlt := (hG.dst j j d (by omega) (by omega) hd).1
      rw [hd]
      simp only [Act.put]
      rw [Array.getElem?_setIfInBounds_self_of_lt (by rw [fillA_size, hn]; exact hlt)]
    · have ih := fillA_dst hG hn vals i (by omega) j d (by omega) hd
      have hne := (hG.dst i j d (by omega) (by omega) hd).2.1.resolve_left (fun h => e h.symm)
      cases hdi : dstAt ops i with
      | none => simpa [Act.put] using ih
      | some d' =>
        have : d' ≠ d := fun e' => hne (by rw [hdi, e'])
        simp only [Act.put, Array.getElem?_setIfInBounds_ne this]
        exact ih
theorem fillA_fr (hG : Good ops k n pl) (hF : Fr n a0 E0) (vals : Nat → Value) : ∀ i, i ≤ k → Fr n (fillA ops vals a0 i) (envOf ops vals E0 i)
  | 0, _ => hF
  | i + 1, hi => by
    have ih := fillA_fr hG hF vals i (by omega)
    simp only [fillA, envOf, extE]
    cases hd : dstAt ops i with
    | none => exact ih
    | some d => exact ih.put (by
        have := (hG.dst i i d (by omega) (by omega) hd).1
        exact Nat.ble_eq_true_of_le this) (vals i)

theorem slot_same (hG : Good ops k n pl) (hn : a0.tmps.size = n) {vals : Nat → Value} {l : Array Bool} {a : Act} {w : World} (hJ : J P ops k n L pl a0 vals l a w) {i : Nat} {o : Oper} (hi : i < k) (ho : ops[i]? = some o) (hw : ∀ m ∈ wAt ops i, l.getD m false = true) :
    ∀ t ∈ looks ops o, a.tmps[t]? = (fillA ops vals a0 i).tmps[t]? := by
  intro t ht
  by_cases hex : ∃ j, j < k ∧ dstAt ops j = some t
  · obtain ⟨j, hj, hd⟩ := hex
    obtain ⟨h1, h2⟩ := (hG.dst i j t hi hj hd).2.2 (by rw [lAt_eq ops ops i o ho]; exact ht)
    rw [hJ.new j t hj (hw j h2) hd, fillA_dst hG hn vals i (by omega) j t h1 hd]
  · rw [hJ.old t (fun j hj _ hd => hex ⟨j, hj, hd⟩), fillA_other vals i t (fun j hj hd => hex ⟨j, by omega, hd⟩)]

theorem exec_same {o : Oper} {a a' : Act} (hsel : ∀ cs b, o.op ≠ .select cs b) (h : ∀ t ∈ looks ops o, a.tmps[t]? = a'.tmps[t]?) : execOp a.eval o = execOp a'.eval o :=
  execOp_congr o hsel fun x hx => by
    cases x with
    | tmp t =>
      have := h t (List.mem_append_left _ (List.mem_filterMap.2 ⟨.tmp t, by simpa using hx, rfl⟩))
      simp [Act.eval, this]
    | _ => rfl

theorem wanted_same {o : Oper} {a a' : Act} (h : ∀ t ∈ looks ops o, a.tmps[t]? = a'.tmps[t]?) : wantedIn ops o a = wantedIn ops o a' := by
  unfold wantedIn Region.wanted
  cases hg : o.guard with
  | none => rfl
  | some gw =>
    obtain ⟨g, want⟩ := gw
    have : yielded ops.toArray a.tmps g = yielded ops.toArray a'.tmps g := by
      unfold yielded
      cases ht : (ops.toArray[g]?).bind (·.dst) with
      | none => rfl
      | some t =>
        have := h t (List.mem_append_right _ (by simp only [hg]; exact Option.mem_toList.2 ht))
        simp [this]
    simp only [this]

def upd (vals : Nat → Value) (i : Nat) (v : Value) : Nat → Value := fun j => if j = i then v else vals j

theorem getD_set_self {l : Array Bool} {i : Nat} (h : i < l.size) (d : Bool) : (l.setIfInBounds i true).getD i d = true := by
  simp [h]

theorem J.step (hG : Good ops k n pl) {vals : Nat → Value} {l : Array Bool} {a : Act} {w w' : World} (hJ : J P ops k n L pl a0 vals l a w) {i : Nat} {o : Oper} (hi : i < k) (ho : ops[i]? = some o) (hun : l.getD i false = false) (hw : ∀ m ∈ wAt ops i, l.getD m false = true)
    {v : Value} (hE : Ext w w') (hmono : ∀ (j : Nat) (T : Value → World → Prop), pl[j]? = some (.gh T) → ∀ g w w', Ext w w' → T g w → T g w')
    (hv : ∀ u, (pl[i]? = some (.pure u) ∨ pl[i]? = some (.rd u)) → v = u) (hg : ∀ T, pl[i]? = some (.gh T) → T v w') :
    J P ops k n L pl a0 (upd vals i v) (l.setIfInBounds i true) (a.put o.dst v) w' := by
  have hd : dstAt ops i = o.dst := by rw [dstAt_eq]; simp [ho]
  have hlt : i < l.size := by rw [hJ.size]; exact (List.getElem?_eq_some_iff.1 ho).1
  have hne : ∀ j, j ≠ i → ∀ d, (l.setIfInBounds i true).getD j d = l.getD j d := fun j hj d => getD_set_ne d (fun e => hj e.symm)
  refine ⟨by simp [hJ.size], fun t ht => ?_, fun x y hx hy => ?_, ?_, ?_, fun t ht => ?_, fun j d hj hl hdj => ?_, hJ.own.ext hE, fun j u hu => ?_, fun j T hT hl => ?_⟩
  · rw [hne t (by omega)]; exact hJ.tail t ht
  · by_cases e : y = i
    · subst e; exact getD_set_self hlt _
    · rw [hne y e]
      by_cases e' : x = i
      · subst e'; exact hw y hy
      · rw [hne x e'] at hx; exact hJ.closed x y hx hy
  · cases o.dst <;> simp [Act.put, hJ.asize]
  · cases o.dst <;> simp [Act.put, hJ.adef]
  · have h1 := hJ.old t (fun j hj hl => ht j hj (by
      by_cases e : j = i
      · subst e; exact getD_set_self hlt _
      · rw [hne j e]; exact hl))
    have h2 := ht i hi (getD_set_self hlt _)
    rw [hd] at h2
    cases hdo : o.dst with
    | none => simpa [Act.put] using h1
    | some d =>
      have : d ≠ t := fun e => h2 (by rw [hdo, e])
      simp only [Act.put, Array.getElem?_setIfInBounds_ne this]
      exact h1
  · by_cases e : j = i
    · subst e
      have hdn := (hG.dst j j d hi hi hdj).1
      rw [hd] at hdj
      simp only [hdj, Act.put, upd, if_pos]
      rw [Array.getElem?_setIfInBounds_self_of_lt (by rw [hJ.asize]; exact hdn)]
    · have h1 := hJ.new j d hj (by rw [hne j e] at hl; exact hl) hdj
      have h2 := (hG.dst i j d hi hj hdj).2.1.resolve_left (fun h => e h.symm)
      rw [hd] at h2
      simp only [upd, if_neg e]
      cases hdo : o.dst with
      | none => simpa [Act.put] using h1
      | some d' =>
        have : d' ≠ d := fun e' => h2 (by rw [hdo, e'])
        simp only [Act.put, Array.getElem?_setIfInBounds_ne this]
        exact h1
  · by_cases e : j = i
    · subst e; simp only [upd, if_pos]; exact hv u hu
    · simp only [upd, if_neg e]; exact hJ.agree j u hu
  · by_cases e : j = i
    · subst e; simp only [upd, if_pos]; exact hg T hT
    · simp only [upd, if_neg e]
      rw [hne j e] at hl
      exact hmono j T hT _ _ _ hE (hJ.ghs j T hT hl)

theorem ghOf_mem (vals : Nat → Value) : ∀ (i j : Nat) (g : Value) (U : Value → World → Prop), (j, g, U) ∈ ghOf pl vals i → j < i ∧ pl[j]? = some (.gh U) ∧ g = vals j
  | 0, _, _, _, h => by simp [ghOf] at h
  | i + 1, j, g, U, h => by
    simp only [ghOf] at h
    split at h
    · rename_i T hT
      rcases List.mem_cons.1 h with h | h
      · simp only [Prod.mk.injEq] at h
        obtain ⟨rfl, rfl, rfl⟩ := h
        exact ⟨by omega, hT, rfl⟩
      · have := ghOf_mem vals i j g U h
        exact ⟨by omega, this.2⟩
    · have := ghOf_mem vals i j g U h
      exact ⟨by omega, this.2⟩

theorem wpAny_draw {Q' : Exit → Act → World → Prop} (hQ : ∀ c a w, ¬ Q' (.panic c) a w) (hG : Good ops k n pl) (hF : Fr n a0 E0)
    (hH : HW P ops n L (fun E G => ∀ a w, Fr n a E → Own w L → (∀ j g U, (j, g, U) ∈ G → U g w) → wpList P ops.toArray Q' (ops.drop k) a w) ops pl E0 [] 0) :
    ∀ (m : Nat) (vals : Nat → Value) (l : Array Bool) (a : Act) (w : World), J P ops k n L pl a0 vals l a w → ((List.range k).filter fun i => !l.getD i false).length ≤ m →
      wpAny P .any ops.toArray Q' (m + (ops.length - k)) l a w := by
  have hall := fun (vals : Nat → Value) (hA : Agree pl vals) => hw_all (E0 := E0) vals hA ops pl 0 (by simp) (by simp) hH
  have hmono : ∀ (j : Nat) (T : Value → World → Prop), pl[j]? = some (.gh T) → ∀ g w w', Ext w w' → T g w → T g w' := by
    intro j T hT
    have hjl : j < k := by rw [← hG.len]; exact (List.getElem?_eq_some_iff.1 hT).1
    have hvals : ∃ vals, Agree pl vals := ⟨fun i => match pl[i]? with | some (.pure v) => v | some (.rd v) => v | _ => undef, fun i v hv => by rcases hv with hv | hv <;> simp [hv]⟩
    obtain ⟨vals, hA⟩ := hvals
    have hlt : j < ops.length := by have := hG.kle; omega
    exact (((hall vals hA).1 j ops[j] (by simp [hlt]) (by omega)).2.2 T hT).1
  intro m
  induction m with
  | zero =>
    intro vals l a w hJ hc
    have hdone : ∀ i, i < k → l.getD i false = true := fun i hi => by
      have hnil := List.eq_nil_of_length_eq_zero (Nat.le_zero.1 hc)
      cases hb : l.getD i false with
      | true => rfl
      | false =>
        have : i ∈ (List.range k).filter fun i => !l.getD i false := List.mem_filter.2 ⟨List.mem_range.2 hi, by simp [hb]⟩
        rw [hnil] at this; cases this
    have hl : l = (List.replicate k true ++ List.replicate (ops.length - k) false).toArray := by
      have hk := hG.kle
      apply Array.ext'
      apply List.ext_getElem?
      intro i
      have hget : l.toList[i]? = if i < ops.length then some (l.getD i false) else none := by
        by_cases h : i < ops.length
        · have h' : i < l.size := by rw [hJ.size]; exact h
          simp [h, h']
        · have h' : ¬ i < l.size := by rw [hJ.size]; exact h
          simp [h]; omega
      rw [hget]
      by_cases h1 : i < k
      · rw [if_pos (by omega), hdone i h1]
        simp [List.getElem?_append, h1]
      · by_cases h2 : i < ops.length
        · rw [if_pos h2, hJ.tail i (by omega)]
          simp only [List.getElem?_append, List.length_replicate, if_neg h1, List.getElem?_replicate]
          rw [if_pos (by omega)]
        · rw [if_neg h2]
          simp only [List.getElem?_append, List.length_replicate, if_neg h1, List.getElem?_replicate]
          rw [if_neg (by omega)]
    have hFa : Fr n a (envOf ops vals E0 k) := by
      have hf := fillA_fr hG hF vals k (Nat.le_refl k)
      refine ⟨hJ.asize, hJ.adef, fun t v hv => ?_⟩
      rw [← hf.slot t v hv]
      by_cases hex : ∃ j, j < k ∧ dstAt ops j = some t
      · obtain ⟨j, hj, hd⟩ := hex
        rw [hJ.new j t hj (hdone j hj) hd, fillA_dst hG hF.size vals k (Nat.le_refl k) j t hj hd]
      · rw [hJ.old t (fun j hj _ hd => hex ⟨j, hj, hd⟩), fillA_other vals k t (fun j hj hd => hex ⟨j, hj, hd⟩)]
    have hK := (hall vals hJ.agree).2
    simp only [Nat.zero_add, hG.len] at hK
    have htail := hK a w hFa hJ.own (fun j g U hm => by
      obtain ⟨h1, h2, rfl⟩ := ghOf_mem vals k j g U hm
      exact hJ.ghs j U h2 (hdone j h1))
    have hlen : (ops.drop k).length = ops.length - k := by simp
    have := wpAny_of_seq (P := P) (md := .any) (ops := ops.toArray) (Q' := Q') (ops.drop k) k l a w (fun j => by simp) (by rw [hlen, hl]; exact hG.seq) htail
    rw [hlen] at this
    simpa using this
  | succ m ih =>
    intro vals l a w hJ hc
    by_cases hfull : ∀ i, i < k → l.getD i false = true
    · refine wpAny_most (f := m + (ops.length - k)) (by omega) (ih vals l a w hJ ?_)
      have : ((List.range k).filter fun i => !l.getD i false) = [] := List.filter_eq_nil_iff.2 fun i hi => by simp [hfull i (List.mem_range.1 hi)]
      rw [this]; exact Nat.zero_le _
    have hshrink : ∀ i, i < k → l.getD i false = false → ((List.range k).filter fun j => !(l.setIfInBounds i true).getD j false).length ≤ m := by
      intro i hi hun
      have hlt : i < l.size := by rw [hJ.size]; have := hG.kle; omega
      have := filter_lt (l := List.range k) (p := fun j => !l.getD j false) (q := fun j => !(l.setIfInBounds i true).getD j false) (fun j _ hq => by
        by_cases e : j = i
        · subst e; rw [getD_set_self hlt] at hq; cases hq
        · rwa [getD_set_ne false (fun e' => e e'.symm)] at hq) (x := i) (List.mem_range.2 hi) (by simp [hun]) (by simp only [getD_set_self hlt]; rfl)
      omega
    have hplain : ∀ i o, i < k → ops[i]? = some o → l.getD i false = false → (∀ m ∈ wAt ops i, l.getD m false = true) → ∀ v w', Ext w w' → (∀ u, (pl[i]? = some (.pure u) ∨ pl[i]? = some (.rd u)) → v = u) → (∀ T, pl[i]? = some (.gh T) → T v w') →
        wpAny P .any ops.toArray Q' (m + (ops.length - k)) (l.setIfInBounds i true) (a.put o.dst v) w' := fun i o hi ho hun hw v w' hE hv hg =>
      ih _ _ _ _ (hJ.step hG hi ho hun hw hE hmono hv hg) (hshrink i hi hun)
    by_cases hrd : ∃ i, i < k ∧ l.getD i false = false ∧ pureAt pl i = false
    · obtain ⟨i0, hi0, hun0, hp0⟩ := hrd
      rw [show m + 1 + (ops.length - k) = (m + (ops.length - k)) + 1 by omega]
      have hhead : ∀ i ∈ Region.ready .any ops.toArray l, i < k := fun i hr => by
        rcases Nat.lt_or_ge i k with h | h
        · exact h
        · obtain ⟨_, h2, h3⟩ := (ready_iff l i).1 hr
          have := reach_listed l hJ.closed ops.length i i0 h3 (hG.tails i i0 h h2 hi0 hp0)
          rw [hun0] at this; cases this
      refine ⟨fun hr => ?_, fun i hr => ?_⟩
      · exfalso
        obtain ⟨x, ⟨hx1, hx2⟩, hx3⟩ := least (p := fun i => i < k ∧ l.getD i false = false) ⟨i0, hi0, hun0⟩
        have hlt : x < ops.length := by have := hG.kle; omega
        have : x ∈ Region.ready .any ops.toArray l := (ready_iff l x).2 ⟨by
          have : x < l.size := by rw [hJ.size]; exact hlt
          simp [this] at hx2 ⊢; exact hx2, hlt, fun y hy => by
          have hyx := hG.back x hx1 y hy
          cases hb : l.getD y false with
          | true => rfl
          | false => have := hx3 y ⟨by omega, hb⟩; omega⟩
        rw [hr] at this; cases this
      · have hi := hhead i hr
        obtain ⟨h1, h2, h3⟩ := (ready_iff l i).1 hr
        have ho : ops[i]? = some ops[i] := by simp [h2]
        have hun : l.getD i false = false := getD_both h1
        have hsame := slot_same hG hF.size hJ hi ho h3
        have hsel : ∀ cs b, ops[i].op ≠ .select cs b := fun cs b => Region.noSelect_spec hG.sel i ops[i] cs b (by simp [h2])
        have hex := exec_same (ops := ops) hsel hsame
        have hwa := wanted_same (ops := ops) hsame
        have hFi := fillA_fr hG hF vals i (by omega)
        have hob := (hall vals hJ.agree).1 i ops[i] ho (by omega)
        have hgh : ∀ j g U, (j, g, U) ∈ ghOf pl vals i → j ∈ wts ops[i] → U g w := fun j g U hm hj => by
          obtain ⟨_, g2, rfl⟩ := ghOf_mem vals i j g U hm
          exact hJ.ghs j U g2 (h3 j (by rw [wAt_eq ops i ops[i] ho]; exact hj))
        have hstep : ∀ T : Value → World → Prop, StepG P ops n L ops[i] (envOf ops vals E0 i) (ghOf pl vals i) T →
            (∀ v w', Ext w w' → T v w' → wpAny P .any ops.toArray Q' (m + (ops.length - k)) (l.setIfInBounds i true) (a.put ops[i].dst v) w') →
            wpOp P ops.toArray Q' i (wpAny P .any ops.toArray Q' (m + (ops.length - k)) (l.setIfInBounds i true)) a w := by
          intro T hS hk'
          unfold wpOp
          simp only [List.getElem?_toArray, ho]
          rcases hS _ w hFi hJ.own hgh with ⟨hw1, hL⟩ | ⟨hw1, hT⟩
          · rw [← hwa] at hw1
            unfold wantedIn at hw1
            rw [if_pos hw1]
            refine .inl (Leads.wp (R := fun u w' => Ext w w' ∧ T u w') ?_ (fun v w' h => hk' v w' h.1 h.2))
            obtain ⟨hL⟩ := hL
            refine ⟨?_⟩
            unfold LeadsR at hL ⊢
            rw [hex]; exact hL
          · rw [← hwa] at hw1
            unfold wantedIn at hw1
            rw [if_neg (by rw [hw1]; exact Bool.false_ne_true)]
            exact hk' _ _ (Ext.refl w) hT
        have hplt : i < pl.length := by rw [hG.len]; exact hi
        have hpi : pl[i]? = some pl[i] := by simp [hplt]
        cases hpe : pl[i] with
        | pure v =>
          rw [hpe] at hpi
          refine hstep (fun u _ => u = v) ?_ (fun u w' hE hu => hplain i _ hi ho hun h3 u w' hE (fun x hx => by rw [hpi] at hx; rcases hx with hx | hx <;> simp at hx; rw [hu, hx]) (fun T hT => by rw [hpi] at hT; simp at hT))
          intro b w1 hb _ _
          rcases hob.1 v hpi b hb with ⟨g1, g2⟩ | ⟨g1, rfl⟩
          · exact .inl ⟨g1, leads_value (g2 w1) ⟨Ext.refl _, rfl⟩⟩
          · exact .inr ⟨g1, rfl⟩
        | rd v =>
          rw [hpe] at hpi
          exact hstep (fun u _ => u = v) (hob.2.1 v hpi) (fun u w' hE hu => hplain i _ hi ho hun h3 u w' hE (fun x hx => by rw [hpi] at hx; rcases hx with hx | hx <;> simp at hx; rw [hu, hx]) (fun T hT => by rw [hpi] at hT; simp at hT))
        | gh T =>
          rw [hpe] at hpi
          exact hstep T (hob.2.2 T hpi).2 (fun u w' hE hu => hplain i _ hi ho hun h3 u w' hE (fun x hx => by rw [hpi] at hx; rcases hx with hx | hx <;> simp at hx) (fun U hU => by rw [hpi] at hU; simp at hU; subst hU; exact hu))
    · -- all that read or make are done: the rest of the head computes
      have hrest : ∀ i, i < k → l.getD i false = false → pureAt pl i = true := fun i hi hun => by
        cases hp : pureAt pl i with
        | true => rfl
        | false => exact absurd ⟨i, hi, hun, hp⟩ hrd
      obtain ⟨i1, hi1⟩ := Classical.not_forall.1 hfull
      have hi1' : i1 < k ∧ l.getD i1 false = false := by
        by_cases h : i1 < k
        · exact ⟨h, by cases hb : l.getD i1 false with
            | false => rfl
            | true => exact absurd (fun _ => hb) hi1⟩
        · exact absurd (fun h' => absurd h' h) hi1
      obtain ⟨x, ⟨hx1, hx2⟩, hx3⟩ := least (p := fun i => i < k ∧ l.getD i false = false) ⟨i1, hi1'⟩
      have hlt : x < ops.length := by have := hG.kle; omega
      have ho : ops[x]? = some ops[x] := by simp [hlt]
      have hw : ∀ y ∈ wAt ops x, l.getD y false = true := fun y hy => by
        have hyx := hG.back x hx1 y hy
        cases hb : l.getD y false with
        | true => rfl
        | false => have := hx3 y ⟨by omega, hb⟩; omega
      have hp := hrest x hx1 hx2
      have hplt : x < pl.length := by rw [hG.len]; exact hx1
      have hpi : pl[x]? = some pl[x] := by simp [hplt]
      have hpx : ∀ (q : List PE) (j : Nat), pureAt q j = true → ∃ v, q[j]? = some (.pure v) := fun q => by
        induction q with
        | nil => intro j h; simp [pureAt] at h
        | cons p r ih => intro j h; cases j with
          | zero => cases p <;> simp_all [pureAt, isPure]
          | succ j => simpa using ih j h
      obtain ⟨v, hpv⟩ := hpx pl x hp
      have hsame := slot_same hG hF.size hJ hx1 ho hw
      have hsel : ∀ (j : Nat) (o : Oper) cs b, ops.toArray[j]? = some o → o.op ≠ .select cs b := fun j o cs b h => Region.noSelect_spec hG.sel j o cs b h
      have hex := exec_same (ops := ops) (fun cs b => hsel x ops[x] cs b (by simp [hlt])) hsame
      have hwa := wanted_same (ops := ops) hsame
      have hy : Yields P ops.toArray ops[x] v a := by
        rcases ((hall vals hJ.agree).1 x ops[x] ho (by omega)).1 v hpv _ (fillA_fr hG hF vals x (by omega)) with ⟨g1, g2⟩ | ⟨g1, g2⟩
        · exact .inl ⟨by unfold wantedIn at hwa; rw [hwa]; exact g1, fun w => by rw [hex]; exact g2 w⟩
        · exact .inr ⟨by unfold wantedIn at hwa; rw [hwa]; exact g1, g2⟩
      rw [show m + 1 + (ops.length - k) = (m + (ops.length - k)) + 1 by omega]
      refine wpAny_first (i := x) (oi := ops[x]) (v := v) (by simp [hlt]) hsel (fun c b u h => absurd h (hQ c _ u)) _ l a w ?_ ?_ hy ?_
      · intro j oj hj hne hun hno
        exact Region.free_spec (by simp [hlt]) (hG.free x hx1 hp) j oj hj hne (by
          have hjl : j < ops.length := by simpa using (Array.getElem?_eq_some_iff.1 hj).1
          have hjx : ¬ j < x := fun hlt' => by
            have := hx3 j ⟨by omega, getD_both hun⟩
            omega
          simp [List.getElem?_append, hjx, show j - x < ops.length - x by omega]) hno
      · exact (ready_iff l x).2 ⟨by
          have : x < l.size := by rw [hJ.size]; exact hlt
          simp [this] at hx2 ⊢; exact hx2, hlt, hw⟩
      · exact hplain x _ hx1 ho hx2 hw v w (Ext.refl w) (fun u hu => by rw [hpv] at hu; rcases hu with hu | hu <;> simp at hu; exact hu) (fun T hT => by rw [hpv] at hT; simp at hT)

/-- A region that draws its order: its first k operations in the order of the text compute, read, or make new blocks; the rest comes behind them, one by one. -/
theorem wc_draw {Q : Exit → Act → World → Prop} {id : Nat} (k : Nat) {pl : List PE} (hm : P.follows .mixedOrders = true) (hB : drawB ops k n pl = true)
    (h : HW P ops n L (fun E G => ∀ a w, Fr n a E → Own w L → (∀ j g U, (j, g, U) ∈ G → U g w) → wpList P ops.toArray (fun e a w => e = .normal ∧ Q .normal a w) (ops.drop k) a w) ops pl E0 [] 0) :
    WC P Q n (.region id ops.toArray true) E0 L := by
  intro a w hF hO
  have hG := good_of hB
  have hvals : ∃ vals, Agree pl vals := ⟨fun i => match pl[i]? with | some (.pure v) => v | some (.rd v) => v | _ => undef, fun i v hv => by rcases hv with hv | hv <;> simp [hv]⟩
  obtain ⟨vals, hA⟩ := hvals
  have hnone : ∀ i d, (Array.replicate ops.length false).getD i d = true → i < ops.length → False := fun i d h hi => by simp [hi] at h
  have hJ : J P ops k n L pl a vals (Array.replicate ops.length false) a { w with drawn := w.drawn + 1 } := by
    have hf : ∀ i, (Array.replicate ops.length false).getD i false = false := fun i => getD_replicate_false _ _
    refine ⟨by simp, fun t _ => hf t, fun i j h => ?_, hF.size, hF.defers, fun _ _ => rfl, fun i d _ h => ?_, ⟨hO.nodup, hO.mem, hO.same.trans ⟨rfl, rfl, rfl⟩⟩, hA, fun i T _ h => ?_⟩
    all_goals (rw [hf i] at h; cases h)
  have hw := wpAny_draw (Q' := fun e a w => e = .normal ∧ Q .normal a w) (fun c a w h => by cases h.1) hG hF h k vals _ a _ hJ (by
    refine Nat.le_trans (List.length_filter_le _ _) ?_
    simp)
  refine wp_mono (wp_region_any hm (by
    rw [show k + (ops.length - k) = ops.toArray.size by have := hG.kle; simp; omega] at hw
    simpa using hw)) (fun e a w hq => ?_)
  obtain ⟨rfl, hq⟩ := hq
  exact hq
end main
end Go.SL
