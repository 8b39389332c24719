/- The steps of a region that draws its order, in the frame logic. -/
import Derived.Test.YtkpndnjhfocheaaSLe
namespace Go.SL
variable {X : Inhabited Outside}
section
variable {P : Program} {ops rest : List Oper} {n : Nat} {L : Hp} {K : Env → Ghs → Prop} {pl : List PE} {E : Env} {G : Ghs} {i d : Nat} {op : Op} {ty : TypeId} {pos : String} {aft : Array Edge}

theorem hw_pu {v : Value} (h : Pu P n E op ty v) (hk : HW P ops n L K rest pl ((d, v) :: E) G (i + 1)) :
    HW P ops n L K (⟨some d, op, ty, pos, aft, none⟩ :: rest) (.pure v :: pl) E G i :=
  ⟨fun a hF => .inl ⟨rfl, fun w => h _ _ _ _ a hF w⟩, hk⟩
theorem hw_rd {v : Value} (h : Rd P n E L op ty v) (hk : HW P ops n L K rest pl ((d, v) :: E) G (i + 1)) :
    HW P ops n L K (⟨some d, op, ty, pos, aft, none⟩ :: rest) (.rd v :: pl) E G i :=
  ⟨fun a w hF hO _ => .inl ⟨rfl, leads_value (h _ _ _ _ a hF w hO) ⟨Ext.refl w, rfl⟩⟩, hk⟩
theorem hw_gon {dst : Option Tmp} {j t : Nat} {b : Bool} {p : PE} (hj : dstAt ops j = some t) (hb : lk E t = some (.bool b))
    (h : HW P ops n L K (⟨dst, op, ty, pos, aft, none⟩ :: rest) (p :: pl) E G i) : HW P ops n L K (⟨dst, op, ty, pos, aft, some (j, b)⟩ :: rest) (p :: pl) E G i := by
  have hw : ∀ a, Fr n a E → Region.wanted ⟨dst, op, ty, pos, aft, some (j, b)⟩ (yielded ops.toArray a.tmps) = true := fun a hF => by
    simp [Region.wanted, yielded_of hF hj hb]
  cases p with
  | pure v => exact ⟨fun a hF => .inl ⟨hw a hF, fun w => by
      rcases h.1 a hF with ⟨_, h2⟩ | ⟨h1, _⟩
      · exact h2 w
      · simp [Region.wanted] at h1⟩, h.2⟩
  | rd v => exact ⟨fun a w hF hO hg => by
      rcases h.1 a w hF hO hg with ⟨_, h2⟩ | ⟨h1, _⟩
      · exact .inl ⟨hw a hF, ⟨h2.raw⟩⟩
      · simp [wantedIn, Region.wanted] at h1, h.2⟩
  | gh T => exact ⟨h.1, fun a w hF hO hg => by
      rcases h.2.1 a w hF hO hg with ⟨_, h2⟩ | ⟨h1, _⟩
      · exact .inl ⟨hw a hF, ⟨h2.raw⟩⟩
      · simp [wantedIn, Region.wanted] at h1, h.2.2⟩
theorem hw_goff {j t : Nat} {b c : Bool} (hj : dstAt ops j = some t) (hb : lk E t = some (.bool b)) (hbc : (b == c) = false)
    (h : HW P ops n L K rest pl ((d, undef) :: E) G (i + 1)) : HW P ops n L K (⟨some d, op, ty, pos, aft, some (j, c)⟩ :: rest) (.pure undef :: pl) E G i :=
  ⟨fun a hF => .inr ⟨by
    have hne : (some b == some c) = false := by simpa using hbc
    simp [Region.wanted, yielded_of hF hj hb, hne], rfl⟩, h⟩
/-- The same where the operation is not pure: it is passed over all the same. -/
theorem hw_goffR {j t : Nat} {b c : Bool} (hj : dstAt ops j = some t) (hb : lk E t = some (.bool b)) (hbc : (b == c) = false)
    (h : HW P ops n L K rest pl ((d, undef) :: E) G (i + 1)) : HW P ops n L K (⟨some d, op, ty, pos, aft, some (j, c)⟩ :: rest) (.rd undef :: pl) E G i :=
  ⟨fun a w hF _ _ => .inr ⟨by
    have hne : (some b == some c) = false := by simpa using hbc
    simp [wantedIn, Region.wanted, yielded_of hF hj hb, hne], rfl⟩, h⟩

/-- A call that comes to one value and leaves what is known as it was, whatever else there is. -/
def QCtr [X : Inhabited Outside] (P : Program) (f : FuncId) (vs : List Value) (L : Hp) (v : Value) : Prop := ∀ F : Hp, Ctr P f vs (L ++ F) (fun u L' => u = v ∧ L' = L ++ F)

theorem whole_own {w : World} {L : Hp} (h : Own w L) : ∃ F, Own w (L ++ F) ∧ ∀ b o, w.heap[b]? = some o → (b, o) ∈ L ++ F := by
  let F : Hp := ((List.range w.heap.size).filter fun b => !(L.map Prod.fst).contains b).map fun b => (b, w.heap[b]?.getD default)
  have hF : ∀ b o, (b, o) ∈ F → b < w.heap.size ∧ b ∉ L.map Prod.fst ∧ w.heap[b]? = some o := fun b o hm => by
    obtain ⟨c, hc, he⟩ := List.mem_map.1 hm
    simp only [Prod.mk.injEq] at he
    obtain ⟨rfl, rfl⟩ := he
    obtain ⟨h1, h2⟩ := List.mem_filter.1 hc
    have h1' := List.mem_range.1 h1
    refine ⟨h1', by simpa using h2, by simp [h1']⟩
  refine ⟨F, ⟨?_, fun b o hm => ?_, h.same⟩, fun b o hb => ?_⟩
  · rw [List.map_append, List.nodup_append]
    refine ⟨h.nodup, ?_, fun b hb c hc e => ?_⟩
    · have : F.map Prod.fst = (List.range w.heap.size).filter fun b => !(L.map Prod.fst).contains b := by
        simp only [F, List.map_map]
        rw [show (Prod.fst ∘ fun b => (b, w.heap[b]?.getD default)) = id from rfl, List.map_id]
      rw [this]
      exact List.Pairwise.filter _ List.nodup_range
    · subst e
      obtain ⟨⟨c, o⟩, hm, rfl⟩ := List.mem_map.1 hc
      exact (hF c o hm).2.1 hb
  · rcases List.mem_append.1 hm with hm | hm
    · exact h.mem b o hm
    · exact (hF b o hm).2.2
  · have hlt : b < w.heap.size := (Array.getElem?_eq_some_iff.1 hb).1
    by_cases hm : b ∈ L.map Prod.fst
    · obtain ⟨⟨c, u⟩, hm', rfl⟩ := List.mem_map.1 hm
      have := h.mem c u hm'
      rw [hb] at this
      cases this
      exact List.mem_append_left _ hm'
    · refine List.mem_append_right _ (List.mem_map.2 ⟨b, List.mem_filter.2 ⟨List.mem_range.2 hlt, by simpa using hm⟩, ?_⟩)
      simp [hb]

theorem QCtr.ext {f : FuncId} {vs : List Value} {v : Value} (h : QCtr P f vs L v) {w : World} (hO : Own w L) : Calls P f vs.toArray w (fun e w' => e = .returned v ∧ Ext w w') := by
  obtain ⟨F, hF, hall⟩ := whole_own hO
  refine (h F w hF).mono fun e w' ⟨u, L', he, ⟨hu, hL⟩, hO'⟩ => ?_
  subst hu hL
  exact ⟨he, fun b o hb => hO'.mem b o (hall b o hb), (Same.symm hO.same).trans hO'.same⟩

theorem QCtr.perm {f : FuncId} {vs : List Value} {v : Value} {L' : Hp} (h : QCtr P f vs L v) (p : ∃ R, L'.Perm (L ++ R)) : QCtr P f vs L' v := fun F w hO => by
  obtain ⟨R, hp⟩ := p
  have hp' : (L' ++ F).Perm (L ++ (R ++ F)) := by rw [← List.append_assoc]; exact hp.append_right F
  exact (h (R ++ F) w (hO.perm hp')).mono fun e w' ⟨u, L'', he, ⟨hu, hL⟩, hO'⟩ => ⟨u, _, he, ⟨hu, rfl⟩, (hL ▸ hO').perm hp'.symm⟩
theorem QCtr.ctr {f : FuncId} {vs : List Value} {v : Value} (h : QCtr P f vs L v) : Ctr P f vs L (fun u L' => u = v ∧ L' = L) := by
  have := h []
  simpa using this
theorem QCtr.of {f : FuncId} {vs : List Value} {v : Value} (h : ∀ F, Ctr P f vs F (fun u L' => u = v ∧ L' = F)) : QCtr P f vs L v := fun _ => h _

theorem leads_call {dst : Option Tmp} {g : Option (Nat × Bool)} {f : FuncId} {xs : List Operand} {vs : List Value} {ts : Array TypeId} {v : Value} {a : Act} {w : World} (he : enters P f = true) (hx : evs E xs = some vs) (hF : Fr n a E) (h : Calls P f vs.toArray w (fun e w' => e = .returned v ∧ Ext w w')) :
    Leads P ⟨dst, .call ⟨.value (.func f), xs.toArray, ts⟩, ty, pos, aft, g⟩ a w (fun u w' => Ext w w' ∧ u = v) := by
  refine ⟨?_⟩
  unfold LeadsR
  simp only [execOp, resolve, List.map_toArray, hF.evs hx]
  simp [Act.eval, Deferred.ofValue, invoke, run_callFunc he]
  exact h
theorem hw_call {f : FuncId} {xs : List Operand} {vs : List Value} {ts : Array TypeId} {v : Value} (he : enters P f = true) (hx : evs E xs = some vs) (hS : QCtr P f vs L v) 
    (hk : HW P ops n L K rest pl ((d, v) :: E) G (i + 1)) : HW P ops n L K (⟨some d, .call ⟨.value (.func f), xs.toArray, ts⟩, ty, pos, aft, none⟩ :: rest) (.rd v :: pl) E G i :=
  ⟨fun _ _ hF hO _ => .inl ⟨rfl, leads_call he hx hF (hS.ext hO)⟩, hk⟩
theorem hw_callv {g : Operand} {f : FuncId} {cs : List Value} {xs : List Operand} {vs : List Value} {ts : Array TypeId} {v : Value} (he : enters P f = true) (hg : ev E g = some (.func (.func f) #[] ⟨cs⟩)) (hx : evs E xs = some vs) (hS : QCtr P f (vs ++ cs) L v) 
    (hk : HW P ops n L K rest pl ((d, v) :: E) G (i + 1)) : HW P ops n L K (⟨some d, .call ⟨.value g, xs.toArray, ts⟩, ty, pos, aft, none⟩ :: rest) (.rd v :: pl) E G i :=
  ⟨fun a w hF hO _ => .inl ⟨rfl, by
    refine ⟨?_⟩
    unfold LeadsR
    simp only [execOp, resolve, List.map_toArray, hF.evs hx, hF.ev hg]
    simp [Deferred.ofValue, invoke, run_callFunc he]
    exact hS.ext hO⟩, hk⟩

/-- A new block, apart from what was known. -/
def New (L : Hp) (o : Obj) (mk : Nat → Value) : Value → World → Prop := fun g w => ∃ b, g = mk b ∧ w.heap[b]? = some o ∧ b ∉ L.map Prod.fst
theorem New.mono {o : Obj} {mk : Nat → Value} : ∀ g w w', Ext w w' → New L o mk g w → New L o mk g w' := fun _ _ _ hE ⟨b, h1, h2, h3⟩ => ⟨b, h1, hE.blk b o h2, h3⟩
theorem New.own {o : Obj} {mk : Nat → Value} {g : Value} {w : World} (h : New L o mk g w) (hO : Own w L) : ∃ b, g = mk b ∧ Own w ((b, o) :: L) := by
  obtain ⟨b, h1, h2, h3⟩ := h
  refine ⟨b, h1, ⟨by simp only [List.map_cons, List.nodup_cons]; exact ⟨h3, hO.nodup⟩, fun c u hm => ?_, hO.same⟩⟩
  rcases List.mem_cons.1 hm with hm | hm
  · simp only [Prod.mk.injEq] at hm; rw [hm.1, hm.2]; exact h2
  · exact hO.mem c u hm
theorem Ext.alloc (w : World) (o : Obj) : Ext w (w.alloc o) := by
  refine ⟨fun b u hb => ?_, rfl, rfl, rfl⟩
  have hlt : b < w.heap.size := (Array.getElem?_eq_some_iff.1 hb).1
  show (w.heap.push o)[b]? = _
  rw [Array.getElem?_push, if_neg (by omega)]; exact hb
theorem Own.fresh {w : World} (hO : Own w L) : w.heap.size ∉ L.map Prod.fst := fun hm => by
  obtain ⟨⟨b, u⟩, hm', he⟩ := List.mem_map.1 hm
  have hlt := hO.lt hm'
  have hb : b = w.heap.size := he
  omega
theorem zeroB_of {T : TypeId} {z : Value} (h : (P.info? T).bind (·.zero) = some z) : zeroB P T z := h
theorem hw_new {o : Obj} {mk : Nat → Value} (h : ∀ (a : Act) (w : World), Fr n a E → Own w L → (execOp a.eval ⟨some d, op, ty, pos, aft, none⟩).run P w = .ok (.value (mk w.heap.size)) (w.alloc o))
    (hk : ∀ g, HW P ops n L K rest pl ((d, g) :: E) ((i, g, New L o mk) :: G) (i + 1)) : HW P ops n L K (⟨some d, op, ty, pos, aft, none⟩ :: rest) (.gh (New L o mk) :: pl) E G i :=
  ⟨New.mono, fun a w hF hO _ => .inl ⟨rfl, leads_value (h a w hF hO) ⟨Ext.alloc w o, _, rfl, by show (w.heap.push o)[w.heap.size]? = _; simp, hO.fresh⟩⟩, hk⟩
theorem hw_gh {dst : Option Tmp} {g0 : Option (Nat × Bool)} (T : Value → World → Prop) (hm : ∀ g w w', Ext w w' → T g w → T g w') (h : StepG P ops n L ⟨dst, op, ty, pos, aft, g0⟩ E G T)
    (hk : ∀ g, HW P ops n L K rest pl (extE E dst g) ((i, g, T) :: G) (i + 1)) : HW P ops n L K (⟨dst, op, ty, pos, aft, g0⟩ :: rest) (.gh T :: pl) E G i := ⟨hm, h, hk⟩
theorem hw_alloc {T : TypeId} {z : Value} (hz : zeroB P T z) (hk : ∀ g, HW P ops n L K rest pl ((d, g) :: E) ((i, g, New L (row T z.cells.toList) (ptr · 0)) :: G) (i + 1)) :
    HW P ops n L K (⟨some d, .alloc T, ty, pos, aft, none⟩ :: rest) (.gh (New L (row T z.cells.toList) (ptr · 0)) :: pl) E G i :=
  hw_new (fun a w _ _ => by simp only [execOp]; simp [Instr.alloc, run_zeroValue hz, newVar, newRow]) hk
theorem hw_box {T : TypeId} {x : Operand} {v : Value} (hx : ev E x = some v) (hk : ∀ g, HW P ops n L K rest pl ((d, g) :: E) ((i, g, New L (row T v.cells.toList) (ptr · 0)) :: G) (i + 1)) :
    HW P ops n L K (⟨some d, .box T x, ty, pos, aft, none⟩ :: rest) (.gh (New L (row T v.cells.toList) (ptr · 0)) :: pl) E G i :=
  hw_new (fun a w hF _ => by simp only [execOp, hF.ev hx]; simp [Instr.box, newVar, newRow]) hk
end

/-! the end of the head -/
section
variable {P : Program} {ops : List Oper} {n k : Nat} {L : Hp} {Q : Exit → Act → World → Prop} {E : Env} {i : Nat} {l : List Oper}
abbrev KD [X : Inhabited Outside] (P : Program) (ops : List Oper) (n k : Nat) (L : Hp) (Q : Exit → Act → World → Prop) : Env → Ghs → Prop := fun E G => ∀ a w, Fr n a E → Own w L → (∀ j g U, (j, g, U) ∈ G → U g w) → wpList P ops.toArray (fun e a w => e = .normal ∧ Q .normal a w) (ops.drop k) a w
abbrev NQ (Q : Exit → Act → World → Prop) : Exit → Act → World → Prop := fun e a w => e = .normal ∧ Q .normal a w
theorem at_nq {E : Env} {L : Hp} (h : AT Q n .normal E L) : AT (NQ Q) n .normal E L := fun a w hF hO => ⟨rfl, h a w hF hO⟩
theorem hw_end (tl : List Oper) (ht : ops.drop k = tl) (h : WL P ops (NQ Q) n tl E L) : HW P ops n L (KD P ops n k L Q) l [] E [] i := by
  unfold HW
  intro a w hF hO _
  rw [ht]
  exact h a w hF hO
theorem hw_end1 {o1 : Oper} (ht : ops.drop k = [o1]) (h : WL P ops (NQ Q) n [o1] E L) : HW P ops n L (KD P ops n k L Q) l [] E [] i := hw_end _ ht h
theorem hw_end2 {o1 o2 : Oper} (ht : ops.drop k = [o1, o2]) (h : WL P ops (NQ Q) n [o1, o2] E L) : HW P ops n L (KD P ops n k L Q) l [] E [] i := hw_end _ ht h
theorem hw_end3 {o1 o2 o3 : Oper} (ht : ops.drop k = [o1, o2, o3]) (h : WL P ops (NQ Q) n [o1, o2, o3] E L) : HW P ops n L (KD P ops n k L Q) l [] E [] i := hw_end _ ht h
theorem hw_end4 {o1 o2 o3 o4 : Oper} (ht : ops.drop k = [o1, o2, o3, o4]) (h : WL P ops (NQ Q) n [o1, o2, o3, o4] E L) : HW P ops n L (KD P ops n k L Q) l [] E [] i := hw_end _ ht h
/-- One new block is known behind the head. -/
theorem hw_endG {j : Nat} {g : Value} {o : Obj} {mk : Nat → Value} (tl : List Oper) (ht : ops.drop k = tl) (h : ∀ b, g = mk b → WL P ops (NQ Q) n tl E ((b, o) :: L)) : HW P ops n L (KD P ops n k L Q) l [] E [(j, g, New L o mk)] i := by
  unfold HW
  intro a w hF hO hG
  obtain ⟨b, hb, hO'⟩ := New.own (hG j g (New L o mk) List.mem_cons_self) hO
  rw [ht]
  exact h b hb a w hF hO'

theorem extE_sub {E E' : Env} (h : ∀ t v, lk E' t = some v → lk E t = some v) (dst : Option Tmp) (u : Value) : ∀ t v, lk (extE E' dst u) t = some v → lk (extE E dst u) t = some v := by
  intro t v ht
  cases dst with
  | none => exact h t v ht
  | some d =>
    simp only [extE] at ht ⊢
    rw [lk_cons] at ht ⊢
    by_cases e : d = t
    · rw [if_pos e] at ht ⊢; exact ht
    · rw [if_neg e] at ht ⊢; exact h t v ht
theorem hw_env : ∀ (l : List Oper) (pl : List PE) (E E' : Env) (G : Ghs) (i : Nat), (∀ t v, lk E' t = some v → lk E t = some v) →
    HW P ops n L (KD P ops n k L Q) l pl E' G i → HW P ops n L (KD P ops n k L Q) l pl E G i
  | _, [], E, E', G, i, hs, h => by
    unfold HW at h ⊢
    exact fun a w hF hO hG => h a w (hF.sub hs) hO hG
  | [], p :: pl, E, E', G, i, hs, h => by simp [HW] at h
  | o :: l, .pure v :: pl, E, E', G, i, hs, h => ⟨fun a hF => h.1 a (hF.sub hs), hw_env l pl _ _ G _ (extE_sub hs o.dst v) h.2⟩
  | o :: l, .rd v :: pl, E, E', G, i, hs, h => ⟨fun a w hF hO hG => h.1 a w (hF.sub hs) hO hG, hw_env l pl _ _ G _ (extE_sub hs o.dst v) h.2⟩
  | o :: l, .gh T :: pl, E, E', G, i, hs, h => ⟨h.1, fun a w hF hO hG => h.2.1 a w (hF.sub hs) hO hG, fun g => hw_env l pl _ _ _ _ (extE_sub hs o.dst g) (h.2.2 g)⟩
theorem hw_isB (t : Nat) {b c : Bool} {pl : List PE} {G : Ghs} (ht : lk E t = some (.bool b)) (hb : b = c) (h : HW P ops n L (KD P ops n k L Q) l pl ((t, .bool c) :: E) G i) : HW P ops n L (KD P ops n k L Q) l pl E G i :=
  hw_env l pl E _ G i (fun s v hs => by
    rw [lk_cons] at hs
    by_cases e : t = s
    · subst e; rw [if_pos rfl] at hs; rw [ht, hb]; exact hs
    · rw [if_neg e] at hs; exact hs) h
theorem hw_isT (t : Nat) {p : Prop} [Decidable p] {pl : List PE} {G : Ghs} (ht : lk E t = some (.bool (decide p))) (hp : p) (h : HW P ops n L (KD P ops n k L Q) l pl ((t, .bool true) :: E) G i) : HW P ops n L (KD P ops n k L Q) l pl E G i :=
  hw_isB t ht (by simp [hp]) h
theorem hw_isF (t : Nat) {p : Prop} [Decidable p] {pl : List PE} {G : Ghs} (ht : lk E t = some (.bool (decide p))) (hp : ¬ p) (h : HW P ops n L (KD P ops n k L Q) l pl ((t, .bool false) :: E) G i) : HW P ops n L (KD P ops n k L Q) l pl E G i :=
  hw_isB t ht (by simp [hp]) h
end
end Go.SL
