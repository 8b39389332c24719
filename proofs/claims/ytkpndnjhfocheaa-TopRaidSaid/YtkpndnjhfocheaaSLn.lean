/- Ranging over a function, in the frame logic: a loop's record and its rounds are known blocks. -/
import Derived.Test.YtkpndnjhfocheaaSLm
import Derived.RangeFuncRecord
import Derived.RangeFuncIn
import Derived.TacticsIn
import Derived.RangeFuncLeaves
namespace Go.SL
variable {X : Inhabited Outside}

def fence (ro : Option Nat) : Fence := { Fence.wide with round := ro }
theorem Leads.wpIn {ro : Option Nat} {P : Program} {o : Oper} {a : Act} {w : World} {R : Value → World → Prop} {K : Act → World → Prop} {Q : Exit → Act → World → Prop}
    (hd : ∀ c, o.op ≠ .defer c) (h : Leads P o a w R) (hk : ∀ v w', R v w' → K (a.put o.dst v) w') : o.wpIn (fence ro) 0 P a w K Q := by
  refine ⟨fun _ _ => trivial, ?_⟩
  rw [Oper.semAt_eq _ _ _ hd]
  obtain ⟨h⟩ := h
  unfold LeadsR at h
  generalize (execOp a.eval o).run P w = r at *
  cases r with
  | ok x w' =>
    cases x <;> first
      | exact h.elim
      | exact hk _ _ h
      | (refine ⟨fun e => by simp [fence, Fence.wide] at e, ?_⟩
         refine (callsIn_wide (n := 0)).2 (h.mono fun e w'' ⟨v, he, hv⟩ => ?_)
         subst he; exact hk _ _ hv)
  | halt x w' => exact h.elim

section
variable {P : Program} {Q : Exit → Act → World → Prop} {n : Nat} {E : Env} {L : Hp} {ops rest : List Oper} {ro : Option Nat} {ds : List Deferred}
/-- The frame, whatever calls it has deferred. -/
structure FrD (ds : List Deferred) (n : Nat) (a : Act) (E : Env) : Prop where
  defers : a.defers = ds
  fr : Fr n { a with defers := [] } E
theorem FrD.ev {a : Act} (h : FrD ds n a E) {x : Operand} {v : Value} (hx : SL.ev E x = some v) : a.eval x = v := h.fr.ev hx
theorem FrD.put {a : Act} (h : FrD ds n a E) {d : Nat} (hd : Nat.blt d n = true) (v : Value) : FrD ds n (a.put (some d) v) ((d, v) :: E) := ⟨h.defers, h.fr.put hd v⟩
theorem FrD.of {a : Act} (h : Fr n a E) : FrD [] n a E := ⟨h.defers, ⟨h.size, rfl, h.slot⟩⟩
theorem FrD.to {a : Act} (h : FrD [] n a E) : Fr n a E := ⟨h.fr.size, h.defers, h.fr.slot⟩

def LI [X : Inhabited Outside] (ro : Option Nat) (ds : List Deferred) (P : Program) (ops : List Oper) (Q : Exit → Act → World → Prop) (n : Nat) (l : List Oper) (E : Env) (L : Hp) : Prop :=
  ∀ a w, FrD ds n a E → Own w L → wpListIn (fence ro) 0 P ops.toArray Q l a w
def CI [X : Inhabited Outside] (ro : Option Nat) (ds : List Deferred) (P : Program) (Q : Exit → Act → World → Prop) (n : Nat) (c : Code) (E : Env) (L : Hp) : Prop :=
  ∀ a w, FrD ds n a E → Own w L → c.wpIn (fence ro) 0 P Q a w
def AI [X : Inhabited Outside] (ds : List Deferred) (Q : Exit → Act → World → Prop) (n : Nat) (e : Exit) (E : Env) (L : Hp) : Prop :=
  ∀ a w, FrD ds n a E → Own w L → Q e a w

theorem wc_in {c : Code} (h : CI none [] P Q n c E L) : WC P Q n c E L := fun a w hF hO => wpIn_wide.1 (h a w (.of hF) hO)
theorem ci_wc {c : Code} (h : WC P Q n c E L) : CI none [] P Q n c E L := fun a w hF hO => (wpIn_wide (n := 0)).2 (h a w hF.to hO)
theorem ci_seq {x y : Code} (h : CI ro ds P (Exit.then (fun a w => y.wpIn (fence ro) 0 P Q a w) Q) n x E L) : CI ro ds P Q n (.seq x y) E L := fun a w hF hO => wpIn_seq (h a w hF hO)
theorem ci_block {id : Nat} {c : Code} (h : CI ro ds P (Exit.inBlock id Q) n c E L) : CI ro ds P Q n (.block id c) E L := fun a w hF hO => wpIn_block (h a w hF hO)
theorem ci_ret (h : AI ds Q n .ret E L) : CI ro ds P Q n .ret E L := fun a w hF hO => wpIn_ret (h a w hF hO)
theorem ci_region {id : Nat} {l : List Oper} (h : LI ro ds P l Q n l E L) : CI ro ds P Q n (.region id l.toArray false) E L := fun a w hF hO => wpIn_region_lit (h a w hF hO)
theorem li_nil (h : AI ds Q n .normal E L) : LI ro ds P ops Q n [] E L := fun a w hF hO => wpListIn_nil (h a w hF hO)
theorem ai_then {y : Code} (h : CI ro ds P Q n y E L) : AI ds (Exit.then (fun a w => y.wpIn (fence ro) 0 P Q a w) Q) n .normal E L := h
theorem ai_block {i : Nat} (h : AI ds Q n .normal E L) : AI ds (Exit.inBlock i Q) n .normal E L := h

variable {d : Nat} {op : Op} {ty : TypeId} {pos : String} {aft : Array Edge}
def notDefer : Op → Bool
  | .defer _ => false
  | _ => true
theorem li_do {R : Value → Hp → Prop} (h : Do P n E L op ty R) (hn : notDefer op = true) (hd : Nat.blt d n = true) (hk : ∀ v L', R v L' → LI ro ds P ops Q n rest ((d, v) :: E) L') :
    LI ro ds P ops Q n (⟨some d, op, ty, pos, aft, none⟩ :: rest) E L := by
  intro a w hF hO
  refine wpListIn_plain rfl fun K hK => ?_
  have hl : Leads P ⟨some d, op, ty, pos, aft, none⟩ a w _ := ⟨(h (some d) pos aft none { a with defers := [] } w hF.fr hO).raw⟩
  exact hl.wpIn (fun c hc => by have hc' : op = _ := hc; rw [hc'] at hn; cases hn) fun v w' ⟨L', hR, hO'⟩ => hK _ _ (hk v L' hR _ _ (hF.put hd v) hO')
theorem li_do0 {R : Value → Hp → Prop} (h : Do P n E L op ty R) (hn : notDefer op = true) (hk : ∀ v L', R v L' → LI ro ds P ops Q n rest E L') :
    LI ro ds P ops Q n (⟨none, op, ty, pos, aft, none⟩ :: rest) E L := by
  intro a w hF hO
  refine wpListIn_plain rfl fun K hK => ?_
  have hl : Leads P ⟨none, op, ty, pos, aft, none⟩ a w _ := ⟨(h none pos aft none { a with defers := [] } w hF.fr hO).raw⟩
  exact hl.wpIn (fun c hc => by have hc' : op = _ := hc; rw [hc'] at hn; cases hn) fun v w' ⟨L', hR, hO'⟩ => hK _ _ (hk v L' hR _ _ hF hO')
theorem li_pu {v : Value} (h : Pu P n E op ty v) (hn : notDefer op = true) (hd : Nat.blt d n = true) (hk : LI ro ds P ops Q n rest ((d, v) :: E) L) : LI ro ds P ops Q n (⟨some d, op, ty, pos, aft, none⟩ :: rest) E L :=
  li_do h.rd.do_ hn hd (by rintro _ _ ⟨rfl, rfl⟩; exact hk)
theorem li_rd {v : Value} (h : Rd P n E L op ty v) (hn : notDefer op = true) (hd : Nat.blt d n = true) (hk : LI ro ds P ops Q n rest ((d, v) :: E) L) : LI ro ds P ops Q n (⟨some d, op, ty, pos, aft, none⟩ :: rest) E L :=
  li_do h.do_ hn hd (by rintro _ _ ⟨rfl, rfl⟩; exact hk)

abbrev yv (l : Nat) : Value := .func (.yield l) #[] #[]
/-- What a call of a loop's yield comes to. -/
def Yld [X : Inhabited Outside] (P : Program) (l : Nat) (v : Value) (L : Hp) (R : Value → Hp → Prop) : Prop :=
  ∀ w, Own w L → ∃ fn tmps assign body, (Instr.yield l #[v]).run P w = .ok (.round l fn tmps assign body) w ∧ RoundIn Fence.wide 0 P l fn tmps assign body w (Post R)
theorem li_yield {l : Nat} {f x : Operand} {v : Value} {ts : Array TypeId} {R : Value → Hp → Prop} (hf : ev E f = some (yv l)) (hx : ev E x = some v) (hy : Yld P l v L R) (hd : Nat.blt d n = true)
    (hk : ∀ v L', R v L' → LI none ds P ops Q n rest ((d, v) :: E) L') : LI none ds P ops Q n (⟨some d, .call ⟨.value f, #[x], ts⟩, ty, pos, aft, none⟩ :: rest) E L := by
  intro a w hF hO
  refine wpListIn_plain rfl fun K hK => ?_
  obtain ⟨fn, tmps, assign, body, hr, hR⟩ := hy w hO
  refine ⟨fun _ _ => trivial, ?_⟩
  have he : (Oper.semAt (fence none).round a.eval ⟨some d, .call ⟨.value f, #[x], ts⟩, ty, pos, aft, none⟩).run P w = .ok (.round l fn tmps assign body) w := by
    rw [Oper.semAt_eq _ _ _ (by intro c h; cases h)]
    simp only [execOp, resolve, List.map_toArray, List.map_cons, List.map_nil, hF.ev hf, hF.ev hx]
    simp [Deferred.ofValue, invoke, hr]
  rw [he]
  refine ⟨fun e => by simp [fence, Fence.wide] at e, ?_⟩
  refine RoundIn.mono hR fun e w' ⟨u, L', h1, h2, h3⟩ => ?_
  subst h1
  exact hK _ _ (hk u L' h2 _ _ (hF.put hd u) h3)

/-- The region of an iterator in which yield is called. -/
theorem wc_yield {id a1 a2 a3 a4 : Nat} {x y : Operand} {v : Value} {l : Nat} {p1 p2 p3 p4 : String} {e1 e2 e3 e4 : Array Edge} {t1 t2 t3 t4 t5 : TypeId} {ts : Array TypeId} {R : Value → Hp → Prop}
    (hx : ev E x = some (yv l)) (hy : ev ((a1, yv l) :: E) y = some v) (h1 : Nat.blt a1 n = true) (h2 : Nat.blt a2 n = true) (h3 : Nat.blt a3 n = true) (h4 : Nat.blt a4 n = true) (h5 : Nat.beq a2 a1 = false) (hY : Yld P l v L R)
    (hk : ∀ u L', R u L' → ∃ b, u = .bool b ∧ AT Q n .normal ((a4, .bool !b) :: (a3, .bool b) :: (a2, v) :: (a1, yv l) :: E) L') :
    WC P Q n (.region id #[⟨some a1, .move x, t1, p1, e1, none⟩, ⟨some a2, .move y, t2, p2, e2, none⟩, ⟨some a3, .call ⟨.value (.tmp a1), #[.tmp a2], ts⟩, t3, p3, e3, none⟩, ⟨some a4, .unOp .not t5 (.tmp a3), t4, p4, e4, none⟩] false) E L := by
  have hne : a2 ≠ a1 := Nat.ne_of_beq_eq_false h5
  refine wc_in (ci_region (l := [_, _, _, _]) (li_pu (y_move hx) rfl h1 (li_pu (y_move hy) rfl h2 (li_yield (v := v) (l := l) ?_ ?_ hY h3 fun u L' hR => ?_))))
  · show lk _ a1 = _
    rw [lk_cons, if_neg hne, lk_cons, if_pos rfl]
  · show lk _ a2 = _
    rw [lk_cons, if_pos rfl]
  · obtain ⟨b, rfl, hA⟩ := hk u L' hR
    refine li_pu (y_notB (b := b) ?_) rfl h4 (li_nil fun a w hF hO => hA a w hF.to hO)
    show lk _ a3 = _
    rw [lk_cons, if_pos rfl]

/-- An iterator over the blocks A: called with a loop's yield, it calls it with the values of some list of which S holds, one behind the other. -/
def Iter [X : Inhabited Outside] (P : Program) (gf : FuncId) (lb : List Value) (A : Hp) (S : List Value → Prop) (N : Nat) (Ok : Value → Prop) : Prop :=
  ∀ (l : Nat) (J : List Value → Hp → Prop) (B0 : Hp),
    (∀ (C : Hp) (pre : List Value) (v : Value) (B : Hp), pre.length < N → Ok v → J pre B → Yld P l v (C ++ B) (fun u L' => u = .bool true ∧ ∃ B', L' = C ++ B' ∧ J (pre ++ [v]) B')) →
    J [] B0 → Ctr P gf (yv l :: lb) (A ++ B0) (fun _ L' => ∃ xs B, S xs ∧ J xs B ∧ L' = A ++ B)

theorem Own.putObj {w : World} {i b : Nat} {o0 : Obj} (h : Own w L) (hL : nth L i = some (b, o0)) (o : Obj) : Own (w.putObj b o) (setAt L i o) := h.setB hL o

theorem perm_mid {x : Nat × Obj} {C B : Hp} : (C ++ x :: B).Perm (x :: (C ++ B)) := List.perm_middle

/-- The statement 'for v := range g', with one variable. -/
theorem ci_rangeFunc {g : Operand} {p d ia : Nat} {pa : String} {ea : Array Edge} {body : Code} {gf : FuncId} {lb : List Value} {A L0 : Hp} {S : List Value → Prop} {N : Nat} {Ok : Value → Prop}
    (he : enters P gf = true) (hg : ev E g = some (.func (.func gf) #[] ⟨lb⟩)) (hp : Nat.blt p n = true) (hd : Nat.blt d n = true) (hI : Iter P gf lb A S N Ok) (J : List Value → Hp → Prop) (h0 : J [] L0)
    (hround : ∀ (l : Nat) (C : Hp) (pre : List Value) (v : Value) (B : Hp), pre.length < N → Ok v → J pre B →
      CI (some l) [] P (fun e _ w => e = .normal ∧ ∃ B', J (pre ++ [v]) B' ∧ Own w (C ++ B')) n body ((d, v) :: (p, v) :: E) (C ++ B))
    (hdone : ∀ (D : Nat) (xs : List Value) (B : Hp), S xs → J xs B → AI [⟨.collected D, #[]⟩] Q n .normal E ((D, .deferred (some [])) :: (A ++ B))) :
    CI none [] P Q n (.rangeFunc g #[p] (.region ia #[⟨some d, .assign (.tmp p), ty, pa, ea, none⟩] false) body) E (A ++ L0) := by
  intro a w hF hO
  have hdf := hF.defers
  refine wpIn_rangeFunc fun fn _ => ?_
  let rec0 : LoopState → Loop := fun st => { state := st, pending := none, fn, tmps := a.tmps, params := #[p], assign := .region ia #[⟨some d, .assign (.tmp p), ty, pa, ea, none⟩] false, body, defers := w.heap.size }
  have hO1 : Own ((w.alloc (.deferred (some []))).alloc (.loop (rec0 .ready))) ((w.heap.size + 1, .loop (rec0 .ready)) :: (w.heap.size, .deferred (some [])) :: (A ++ L0)) := by
    have := (hO.alloc (.deferred (some []))).alloc (.loop (rec0 .ready))
    rwa [World.size_alloc] at this
  refine ⟨w.heap.size + 1, [{ target := .collected w.heap.size, args := #[] }], (w.alloc (.deferred (some []))).alloc (.loop (rec0 .ready)), { target := .fn (.func gf) ⟨lb⟩, args := #[yv (w.heap.size + 1)] },
    (w.alloc (.deferred (some []))).alloc (.loop (rec0 .ready)), gf, (yv (w.heap.size + 1) :: lb).toArray, (w.alloc (.deferred (some []))).alloc (.loop (rec0 .ready)), run_enterLoop_outer _ _ _ _ _, ?_, fun _ _ => trivial, ?_, fun e => by simp [fence, Fence.wide] at e, ?_⟩
  · have : a.eval g = .func (.func gf) #[] ⟨lb⟩ := hF.ev hg
    simp only [resolve, List.map_toArray, List.map_cons, List.map_nil, this]
    simp [Act.eval, Deferred.ofValue]
  · simp [invoke, run_callFunc he]
  refine (callsIn_wide (n := 0)).2 ?_
  generalize hD : w.heap.size = D at *
  have hJ : ∀ (C : Hp) (pre : List Value) (v : Value) (B' : Hp), pre.length < N → Ok v → (∃ B, J pre B ∧ B' = (D + 1, Obj.loop (rec0 .ready)) :: (D, .deferred (some [])) :: B) →
      Yld P (D + 1) v (C ++ B') (fun u L' => u = .bool true ∧ ∃ B'', L' = C ++ B'' ∧ ∃ B, J (pre ++ [v]) B ∧ B'' = (D + 1, Obj.loop (rec0 .ready)) :: (D, .deferred (some [])) :: B) := by
    rintro C pre v _ hN hOk ⟨B, hB, rfl⟩ w1 hw1
    have hw2 : Own w1 ((D + 1, Obj.loop (rec0 .ready)) :: (C ++ (D, .deferred (some [])) :: B)) := hw1.perm perm_mid
    have hl := hw2.mem _ _ List.mem_cons_self
    refine ⟨fn, _, _, _, run_yield (args := #[v]) hl rfl, roundIn_of_wpIn trivial ?_⟩
    have hF1 : FrD [] n { tmps := ((#[p] : Array Tmp).zip #[v]).foldl (fun tmps (t, a) => tmps.setIfInBounds t a) a.tmps, defers := [] } ((p, v) :: E) :=
      .of (by have := hF.fr.put hp v; simpa [Act.put] using this)
    refine (ci_region (ro := some (D + 1)) (l := [_]) (L := (D + 1, Obj.loop (rec0 .ready)) :: (C ++ (D, .deferred (some [])) :: B)) (li_pu (y_assign (v := v) (by show lk _ p = _; rw [lk_cons, if_pos rfl])) rfl hd (li_nil ?_))) _ w1 hF1 hw2
    intro a2 w2 hF2 hO2
    have hl2 := hO2.mem _ _ List.mem_cons_self
    refine ⟨_, run_beginRound hl2 rfl, ?_⟩
    have hO3' : Own (w2.putObj (D + 1) (.loop (rec0 .busy))) (((D + 1, Obj.loop (rec0 .busy)) :: (C ++ [(D, .deferred (some []))])) ++ B) := by
      have := hO2.putObj (i := 0) rfl (.loop (rec0 .busy))
      rw [List.cons_append, List.append_assoc]
      exact this
    refine wpIn_mono (hround (D + 1) _ pre v B hN hOk hB a2 _ hF2 hO3') ?_
    rintro e a3 w3 ⟨rfl, B', hB', hO4⟩
    have hl3 := hO4.mem (D + 1) (.loop (rec0 .busy)) List.mem_cons_self
    refine ⟨_, _, run_endRound none hl3, _, _, rfl, ⟨rfl, _, rfl, B', hB', rfl⟩, ?_⟩
    have hO6 : Own (w3.putObj (D + 1) (.loop (rec0 .ready))) ((D + 1, Obj.loop (rec0 .ready)) :: (C ++ (D, .deferred (some [])) :: B')) := by
      have := hO4.putObj (i := 0) rfl (.loop (rec0 .ready))
      have e : C ++ (D, Obj.deferred (some [])) :: B' = (C ++ [(D, .deferred (some []))]) ++ B' := by simp
      rw [e]
      exact this
    exact hO6.perm perm_mid.symm
  have hO1' : Own ((w.alloc (.deferred (some []))).alloc (.loop (rec0 .ready))) (A ++ ((D + 1, .loop (rec0 .ready)) :: (D, .deferred (some [])) :: L0)) :=
    hO1.perm ((List.Perm.cons _ perm_mid.symm).trans perm_mid.symm)
  refine (hI (D + 1) (fun xs B' => ∃ B, J xs B ∧ B' = (D + 1, Obj.loop (rec0 .ready)) :: (D, .deferred (some [])) :: B) _ hJ ⟨L0, h0, rfl⟩ _ hO1').mono ?_
  rintro e w2 ⟨u, L', rfl, ⟨xs, B', hS, ⟨B, hB, rfl⟩, rfl⟩, hO2⟩
  have hO3 : Own w2 ((D + 1, Obj.loop (rec0 .ready)) :: (A ++ (D, .deferred (some [])) :: B)) := hO2.perm perm_mid
  have hl := hO3.mem _ _ List.mem_cons_self
  refine ⟨none, _, run_endLoop hl (by simp [rec0]), ?_⟩
  have hO4 := (hO3.putObj (i := 0) rfl (.loop { rec0 .ready with state := .exhausted }))
  have hO5 : Own _ ((D, .deferred (some [])) :: (A ++ B)) := (Own.drop hO4).perm perm_mid
  exact hdone D xs B hS hB _ _ ⟨by simp [hdf], hF.fr⟩ hO5

theorem spec_marks {f : FuncId} {fn : Func} {c : Code} {vs : List Value} {R : Value → Hp → Prop}
    (hf : P.funcs[f]? = some fn) (hn : fn.ntmps = n) (hb : fn.body = some c) (hl : Nat.ble vs.length n = true)
    (h : CI none [] P (bodyPostM Fence.wide 0 P fn (Post R)) n c (envFrom 0 vs) L) : Ctr P f vs L R := by
  intro w hO
  refine (callsIn_wide (n := 0)).1 (callsIn_of_wp_marks hf hb trivial (h _ _ (.of ?_) hO))
  have hl' : vs.length ≤ n := Nat.le_of_ble_eq_true hl
  refine ⟨by simp [hn]; omega, rfl, fun t v ht => ?_⟩
  obtain ⟨_, h2⟩ := lk_envFrom vs 0 t v ht
  have h2' : vs[t]? = some v := by simpa using h2
  have hlt : t < vs.length := (List.getElem?_eq_some_iff.1 h2').1
  simp only [Array.getElem?_append, List.size_toArray, hlt, if_true]
  simpa using h2'
theorem ai_retM {fn : Func} {t D : Nat} {v : Value} {R : Value → Hp → Prop} (hr : fn.results = #[.tmp t]) (ht : lk E t = some v) (hR : R v L) :
    AI [⟨.collected D, #[]⟩] (bodyPostM Fence.wide 0 P fn (Post R)) n .ret E ((D, .deferred (some [])) :: L) := by
  intro a w hF hO
  show LeavesInM Fence.wide 0 P fn a.tmps (Post R) a.defers .returning w
  rw [hF.defers]
  refine ⟨by simp, .inl ⟨D, _, rfl, run_takeDeferred (hO.mem _ _ List.mem_cons_self), ?_⟩⟩
  refine ⟨v, ?_, v, L, rfl, hR, ?_⟩
  · rw [results_tmp hr]; simp [hF.fr.slot t v ht]
  · exact (hO.putObj (i := 0) rfl (.deferred none)).drop
theorem li_perm {l : List Oper} {L' : Hp} (p : L.Perm L') (h : LI ro ds P ops Q n l E L') : LI ro ds P ops Q n l E L := fun a w hF hO => h a w hF (hO.perm p)
theorem ci_perm {c : Code} {L' : Hp} (p : L.Perm L') (h : CI ro ds P Q n c E L') : CI ro ds P Q n c E L := fun a w hF hO => h a w hF (hO.perm p)
theorem ai_perm {e : Exit} {L' : Hp} (p : L.Perm L') (h : AI ds Q n e E L') : AI ds Q n e E L := fun a w hF hO => h a w hF (hO.perm p)
theorem ai_drop {e : Exit} {x : Nat × Obj} (h : AI ds Q n e E L) : AI ds Q n e E (x :: L) := fun a w hF hO => h a w hF hO.drop
theorem slF_form {T : TypeId} {sz : Nat} {v : Value} {k : Nat} {xs : List Value} {fr : Hp} (h : SlF T sz v k xs fr) : ∃ p cap, v = .slice p k cap := by
  cases h with
  | nil => exact ⟨_, _, rfl⟩
  | own b n cap xs sp hx hc hs => exact ⟨_, _, rfl⟩
theorem slF_one {T : TypeId} {sz : Nat} {v : Value} {k : Nat} {xs : List Value} {fr : Hp} (h : SlF T sz v k xs fr) : v.oneCell' = true := by
  obtain ⟨p, cap, rfl⟩ := slF_form h; rfl
theorem hw_goffU {K : Env → Ghs → Prop} {pl : List PE} {G : Ghs} {i d j t : Nat} {c : Bool} (hj : dstAt ops j = some t) (hb : lk E t = some undef)
    (h : HW P ops n L K rest pl ((d, undef) :: E) G (i + 1)) : HW P ops n L K (⟨some d, op, ty, pos, aft, some (j, c)⟩ :: rest) (.pure undef :: pl) E G i :=
  ⟨fun a hF => .inr ⟨by
    have hy : yielded ops.toArray a.tmps j = none := by
      unfold yielded
      rw [← dstAt_eq, hj]
      simp [hF.slot t _ hb, undef]
    have hne : ((none : Option Bool) == some c) = false := by cases c <;> rfl
    simp [Region.wanted, hy, hne], rfl⟩, h⟩
theorem hw_gonL {K : Env → Ghs → Prop} {pl : List PE} {G : Ghs} {i : Nat} {dst : Option Tmp} {j t : Nat} {b : Bool} (hj : dstAt ops j = some t) (hb : lk E t = some (.bool b))
    (h : HW P ops n L K (⟨dst, op, ty, pos, aft, none⟩ :: rest) pl E G i) : HW P ops n L K (⟨dst, op, ty, pos, aft, some (j, b)⟩ :: rest) pl E G i := by
  cases pl with
  | nil => exact h
  | cons p pl => exact hw_gon hj hb h
end
end Go.SL
