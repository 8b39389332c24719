/- Texts, slices, calls, in the frame logic. -/
import Derived.Test.YtkpndnjhfocheaaSLc
namespace Go.SL
variable {X : Inhabited Outside}
section
variable {P : Program} {n : Nat} {E : Env} {L : Hp} {ty T T' : TypeId} {x y : Operand}

/-! texts -/
theorem y_cat {l r : List UInt8} (hx : ev E x = some (S l)) (hy : ev E y = some (S r)) (h : (l.length : Int) + r.length ≤ 9223372036854775807) : Pu P n E (.binOp .add T x y T') ty (S (l ++ r)) := fun _ _ _ _ a hF w => by
  simp only [execOp, hF.ev hx, hF.ev hy]
  have h' : (do eqGuard .add T x y (S l) (S r); binOp .add T (S l) (S r)) = Op.stringOp .add ⟨⟨l⟩⟩ ⟨⟨r⟩⟩ := rfl
  have hsz : ¬ ((((⟨⟨l⟩⟩ : ByteArray).size + (⟨⟨r⟩⟩ : ByteArray).size : Nat) : Int) > IntKind.i64.max) := by
    show ¬ (((l.length + r.length : Nat) : Int) > 9223372036854775807)
    omega
  have hr : Op.stringOp .add ⟨⟨l⟩⟩ ⟨⟨r⟩⟩ = pure (S (l ++ r)) := by
    simp only [Op.stringOp, if_neg hsz]
    rw [ByteArray.mk_append_mk]
  rw [h', hr]; rfl
theorem y_eqS {l r : List UInt8} (hx : ev E x = some (S l)) (hy : ev E y = some (S r)) : Pu P n E (.binOp .eql T x y T') ty (.bool (decide (l = r))) := fun _ _ _ _ a hF w => by
  simp only [execOp, hF.ev hx, hF.ev hy]
  have h' : (do eqGuard .eql T x y (S l) (S r); binOp .eql T (S l) (S r)) = Op.stringOp .eql ⟨⟨l⟩⟩ ⟨⟨r⟩⟩ := rfl
  have hr : Op.stringOp .eql ⟨⟨l⟩⟩ ⟨⟨r⟩⟩ = pure (.bool (decide (l = r))) := by
    simp only [Op.stringOp]
    rw [ByteArray.toList_mk, ByteArray.toList_mk]
    congr 2
    by_cases h : l = r <;> simp [h]
  rw [h', hr]; rfl
theorem y_neS {l r : List UInt8} (hx : ev E x = some (S l)) (hy : ev E y = some (S r)) : Pu P n E (.binOp .neq T x y T') ty (.bool (decide (l ≠ r))) := fun _ _ _ _ a hF w => by
  simp only [execOp, hF.ev hx, hF.ev hy]
  have h' : (do eqGuard .neq T x y (S l) (S r); binOp .neq T (S l) (S r)) = Op.stringOp .neq ⟨⟨l⟩⟩ ⟨⟨r⟩⟩ := rfl
  have hr : Op.stringOp .neq ⟨⟨l⟩⟩ ⟨⟨r⟩⟩ = pure (.bool (decide (l ≠ r))) := by
    simp only [Op.stringOp]
    rw [ByteArray.toList_mk, ByteArray.toList_mk]
    congr 2
    by_cases h : l = r <;> simp [h]
  rw [h', hr]; rfl
theorem run_sliceS {w : World} {l : List UInt8} {lo hi : Option Value} {i j : Nat} (hu : P.underlying T = some .string)
    (hh : (hi = none ∧ j = l.length) ∨ (∃ k, hi = some (.int k (j : Int)) ∧ j ≤ l.length)) (hl : (lo = none ∧ i = 0) ∨ (∃ k, lo = some (.int k (i : Int)) ∧ i ≤ j)) :
    (Instr.slice T (S l) lo hi none).run P w = .ok (S ((l.drop i).take (j - i))) w := by
  have hsz : ByteArray.size { data := { toList := l } } = l.length := rfl
  rcases hh with ⟨rfl, rfl⟩ | ⟨k, rfl, hj⟩ <;> rcases hl with ⟨rfl, rfl⟩ | ⟨k', rfl, hi⟩ <;>
    simp [Instr.slice, Instr.sliceBounds, Instr.sliceBound, asIntOf, run_underlying hu, ByteArray.extract_mk] <;> (try rw [hsz]) <;> (try simp [*]) <;> (try (intro hcon; omega))
theorem y_sliceS (i j : Nat) {l : List UInt8} {lo hi : Option Operand} (hu : P.underlying T = some .string) (hx : ev E x = some (S l))
    (hh : (hi = none ∧ j = l.length) ∨ (∃ o k, hi = some o ∧ ev E o = some (.int k (j : Int)) ∧ j ≤ l.length)) (hl : (lo = none ∧ i = 0) ∨ (∃ o k, lo = some o ∧ ev E o = some (.int k (i : Int)) ∧ i ≤ j)) : Pu P n E (.slice T x lo hi none) ty (S ((l.drop i).take (j - i))) := fun _ _ _ _ a hF w => by
  simp only [execOp, hF.ev hx]
  have h := run_sliceS (P := P) (w := w) (l := l) (lo := lo.map a.eval) (hi := hi.map a.eval) (i := i) (j := j) hu
    (by rcases hh with ⟨rfl, rfl⟩ | ⟨o, k, rfl, he, hj⟩
        · exact .inl ⟨rfl, rfl⟩
        · exact .inr ⟨k, by rw [Option.map_some, hF.ev he], hj⟩)
    (by rcases hl with ⟨rfl, rfl⟩ | ⟨o, k, rfl, he, hi⟩
        · exact .inl ⟨rfl, rfl⟩
        · exact .inr ⟨k, by rw [Option.map_some, hF.ev he], hi⟩)
  have h2 : (Instr.sliceAt T (S l) (lo.map a.eval) (hi.map a.eval) none).run P w = (Instr.slice T (S l) (lo.map a.eval) (hi.map a.eval) none).run P w := by
    simp [Instr.sliceAt, run_underlying hu]
  simp [h2, h]
/-- s[lo:hi], s[lo:], s[:hi] of a text -/
theorem y_subS {l : List UInt8} {o p : Operand} {i j : Int} {k k' : IntKind} (hu : P.underlying T = some .string) (hx : ev E x = some (S l)) (ho : ev E o = some (.int k i)) (hp : ev E p = some (.int k' j)) (h : 0 ≤ i ∧ i ≤ j ∧ j ≤ l.length) : Pu P n E (.slice T x (some o) (some p) none) ty (S ((l.drop i.toNat).take (j.toNat - i.toNat))) :=
  y_sliceS i.toNat j.toNat hu hx (.inr ⟨p, k', rfl, by rw [hp]; congr 2; omega, by omega⟩) (.inr ⟨o, k, rfl, by rw [ho]; congr 2; omega, by omega⟩)
theorem y_fromS {l : List UInt8} {o : Operand} {i : Int} {k : IntKind} (hu : P.underlying T = some .string) (hx : ev E x = some (S l)) (ho : ev E o = some (.int k i)) (h : 0 ≤ i ∧ i ≤ l.length) : Pu P n E (.slice T x (some o) none none) ty (S (l.drop i.toNat)) := by
  have := y_sliceS (P := P) (n := n) (E := E) (ty := ty) (T := T) i.toNat l.length (lo := some o) (hi := none) hu hx (.inl ⟨rfl, rfl⟩) (.inr ⟨o, k, rfl, by rw [ho]; congr 2; omega, by omega⟩)
  rwa [List.take_of_length_le (by simp)] at this
theorem y_toS {l : List UInt8} {p : Operand} {j : Int} {k : IntKind} (hu : P.underlying T = some .string) (hx : ev E x = some (S l)) (hp : ev E p = some (.int k j)) (h : 0 ≤ j ∧ j ≤ l.length) : Pu P n E (.slice T x none (some p) none) ty (S (l.take j.toNat)) := by
  have := y_sliceS (P := P) (n := n) (E := E) (ty := ty) (T := T) 0 j.toNat (lo := none) (hi := some p) hu hx (.inr ⟨p, k, rfl, by rw [hp]; congr 2; omega, by omega⟩) (.inl ⟨rfl, rfl⟩)
  simpa using this

/-! slices of rows -/
theorem run_sliceL {w : World} {e : TypeId} {b off len cap es : Nat} {lo hi : Option Value} {i j : Nat} (hu : P.underlying T = some (.slice e)) (hz : szB P e es = true)
    (hh : (hi = none ∧ j = len) ∨ (∃ k, hi = some (.int k (j : Int)) ∧ j ≤ cap)) (hl : (lo = none ∧ i = 0) ∨ (∃ k, lo = some (.int k (i : Int)) ∧ i ≤ j)) :
    (Instr.sliceAt T (sl b off len cap) lo hi none).run P w = .ok (sl b (if cap = i then off else off + i * es) (j - i) (cap - i)) w := by
  rcases hh with ⟨rfl, rfl⟩ | ⟨k, rfl, hj⟩ <;> rcases hl with ⟨rfl, rfl⟩ | ⟨k', rfl, hi⟩ <;>
    (simp [Instr.sliceAt, Instr.slice, Instr.sliceBounds, Instr.sliceBound, asIntOf, run_underlying hu, run_sizeOf hz, addr_add, *]; try (split <;> rfl))
theorem y_sliceL (i j es : Nat) {e : TypeId} {b off len cap : Nat} {lo hi : Option Operand} (hu : P.underlying T = some (.slice e)) (hz : szB P e es = true) (hx : ev E x = some (sl b off len cap))
    (hh : (hi = none ∧ j = len) ∨ (∃ o k, hi = some o ∧ ev E o = some (.int k (j : Int)) ∧ j ≤ cap)) (hl : (lo = none ∧ i = 0) ∨ (∃ o k, lo = some o ∧ ev E o = some (.int k (i : Int)) ∧ i ≤ j)) : Pu P n E (.slice T x lo hi none) ty (sl b (if cap = i then off else off + i * es) (j - i) (cap - i)) := fun _ _ _ _ a hF w => by
  simp only [execOp, hF.ev hx]
  have h := run_sliceL (P := P) (w := w) (b := b) (off := off) (len := len) (cap := cap) (lo := lo.map a.eval) (hi := hi.map a.eval) (i := i) (j := j) hu hz
    (by rcases hh with ⟨rfl, rfl⟩ | ⟨o, k, rfl, he, hj⟩
        · exact .inl ⟨rfl, rfl⟩
        · exact .inr ⟨k, by rw [Option.map_some, hF.ev he], hj⟩)
    (by rcases hl with ⟨rfl, rfl⟩ | ⟨o, k, rfl, he, hi⟩
        · exact .inl ⟨rfl, rfl⟩
        · exact .inr ⟨k, by rw [Option.map_some, hF.ev he], hi⟩)
  simp [h]
/-- xs[:hi] -/
theorem y_toL {e : TypeId} {b off len cap : Nat} {p : Operand} {j : Int} {k : IntKind} (es : Nat) (hu : P.underlying T = some (.slice e)) (hz : szB P e es = true) (hx : ev E x = some (sl b off len cap)) (hp : ev E p = some (.int k j)) (h : 0 ≤ j ∧ j ≤ cap) : Pu P n E (.slice T x none (some p) none) ty (sl b off j.toNat cap) := by
  have := y_sliceL (P := P) (n := n) (E := E) (ty := ty) (T := T) 0 j.toNat es (lo := none) (hi := some p) hu hz hx (.inr ⟨p, k, rfl, by rw [hp]; congr 2; omega, by omega⟩) (.inl ⟨rfl, rfl⟩)
  simpa using this
/-- xs[lo:] -/
theorem y_fromL {e : TypeId} {b off len cap : Nat} {o : Operand} {i : Int} {k : IntKind} (es : Nat) (hu : P.underlying T = some (.slice e)) (hz : szB P e es = true) (hx : ev E x = some (sl b off len cap)) (ho : ev E o = some (.int k i)) (h : 0 ≤ i ∧ i ≤ len) : Pu P n E (.slice T x (some o) none none) ty (sl b (if cap = i.toNat then off else off + i.toNat * es) (len - i.toNat) (cap - i.toNat)) :=
  y_sliceL i.toNat len es hu hz hx (.inl ⟨rfl, rfl⟩) (.inr ⟨o, k, rfl, by rw [ho]; congr 2; omega, by omega⟩)
/-- xs[lo:hi] -/
theorem y_subL {e : TypeId} {b off len cap : Nat} {o p : Operand} {i j : Int} {k k' : IntKind} (es : Nat) (hu : P.underlying T = some (.slice e)) (hz : szB P e es = true) (hx : ev E x = some (sl b off len cap)) (ho : ev E o = some (.int k i)) (hp : ev E p = some (.int k' j)) (h : 0 ≤ i ∧ i ≤ j ∧ j ≤ cap) : Pu P n E (.slice T x (some o) (some p) none) ty (sl b (if cap = i.toNat then off else off + i.toNat * es) (j.toNat - i.toNat) (cap - i.toNat)) :=
  y_sliceL i.toNat j.toNat es hu hz hx (.inr ⟨p, k', rfl, by rw [hp]; congr 2; omega, by omega⟩) (.inr ⟨o, k, rfl, by rw [ho]; congr 2; omega, by omega⟩)

/-! making rows -/
def zeros (z : Value) (k : Nat) : List Value := List.replicate k z
theorem x_make {e : TypeId} {z : Value} {i : Int} {by_ : Nat} (hu : P.underlying T = some (.slice e)) (hz : zeroB P e z) (h1 : szB P e 1 = true) (hzc : z.oneCell' = true) (hb : (P.info? e).map (·.bytes) = some by_) (hx : ev E x = some (int i)) (hy : ev E y = some (int i)) (h : 0 ≤ i ∧ i * by_ ≤ 281474976710656 ∧ i ≤ 9223372036854775807)
    {dst : Option Tmp} {pos : String} {aft : Array Edge} {g : Option (Nat × Bool)} {a : Act} {w : World} (hF : Fr n a E) :
    (execOp a.eval ⟨dst, .makeSlice T x y, ty, pos, aft, g⟩).run P w = .ok (.value (sl w.heap.size 0 i.toNat i.toNat)) (w.alloc (row e (zeros z i.toNat))) := by
  have hvc : z.cells = #[z] := by cases z <;> simp_all [Value.cells, Value.oneCell']
  have hrow : (Array.range i.toNat).map (fun j => ([z] : List Value)[j % 1]?.getD default) = (zeros z i.toNat).toArray := by
    apply Array.ext'
    simp only [zeros, Array.toList_map, Array.toList_range, Nat.mod_one]
    apply List.ext_getElem?
    intro j
    simp only [List.getElem?_map, List.getElem?_replicate]
    by_cases hj : j < i.toNat
    · simp [hj]
    · simp [hj]
  cases hi : P.info? e with
  | none => simp [hi] at hb
  | some t =>
    have hb' : t.bytes = by_ := by simpa [hi] using hb
    have hs' : t.size = 1 := by simpa [szB, hi] using h1
    have hz' : t.zero = some z := by simpa [zeroB, hi] using hz
    have hw : IntKind.i64.wrap i = i := IntWalk.i64_in _ (by omega)
    have hn1 : ¬ (i < 0) := by omega
    have hn2 : ¬ (281474976710656 < (by_ : Int) * i) := by rw [Int.mul_comm]; omega
    simp only [execOp, hF.ev hx, hF.ev hy]
    by_cases h0 : i.toNat = 0
    · simp [Instr.makeSlice, run_underlying hu, typeInfo, hi, asInt, asIntOf, hw, hb', hn1, hn2, sizeOf, newRow, h0, zeros]
      congr 2; rw [show Array.range 0 = #[] from by simp]; simp
    · simp [Instr.makeSlice, run_underlying hu, typeInfo, hi, asInt, asIntOf, hw, hb', hn1, hn2, sizeOf, hs', newRow, h0, zeroValue, hz', hvc]
      exact congrArg (fun X => w.alloc (Obj.cells X e)) hrow
theorem d_make {e : TypeId} {z : Value} {i : Int} {by_ : Nat} (hu : P.underlying T = some (.slice e)) (hz : zeroB P e z) (h1 : szB P e 1 = true) (hzc : z.oneCell' = true) (hb : (P.info? e).map (·.bytes) = some by_) (hx : ev E x = some (int i)) (hy : ev E y = some (int i)) (h : 0 ≤ i ∧ i * by_ ≤ 281474976710656 ∧ i ≤ 9223372036854775807) :
    Do P n E L (.makeSlice T x y) ty (fun u L' => ∃ b, u = sl b 0 i.toNat i.toNat ∧ L' = (b, row e (zeros z i.toNat)) :: L) := fun _ _ _ _ _ _ hF hO =>
  leads_value (x_make hu hz h1 hzc hb hx hy h hF) ⟨_, ⟨_, rfl, rfl⟩, hO.alloc _⟩
end

/-! calls -/
section
variable {P : Program} {Q : Exit → Act → World → Prop} {n : Nat} {E : Env} {L : Hp} {ops rest : List Oper} {ty : TypeId}
def evs (E : Env) : List Operand → Option (List Value)
  | [] => some []
  | x :: r => match ev E x with
    | some v => match evs E r with
      | some vs => some (v :: vs)
      | none => none
    | none => none
theorem Fr.evs {a : Act} (h : Fr n a E) : ∀ {xs : List Operand} {vs : List Value}, evs E xs = some vs → xs.map a.eval = vs
  | [], vs, hx => by simp [SL.evs] at hx; simp [hx]
  | x :: r, vs, hx => by
    simp only [SL.evs] at hx
    cases hv : SL.ev E x with
    | none => simp [hv] at hx
    | some v =>
      cases hr : SL.evs E r with
      | none => simp [hv, hr] at hx
      | some us =>
        simp [hv, hr] at hx
        subst hx
        simp [h.ev hv, h.evs hr]
/-- Is a function's body there, and is it none of the names that the model knows? -/
def enters (P : Program) (f : FuncId) : Bool := match P.funcs[f]? with
  | some fn => fn.body.isSome && !(fn.name == "runtime.NumGoroutine")
  | none => false
theorem run_callFunc {w : World} {f : FuncId} {args : Array Value} (h : enters P f = true) : (callFunc f args).run P w = .ok (.enter f args) w := by
  unfold enters at h
  cases hf : P.funcs[f]? with
  | none => simp [hf] at h
  | some fn =>
    simp [hf] at h
    have hb : fn.body ≠ none := by intro hq; simp [hq] at h
    simp [callFunc, hf, h.2, hb]
theorem d_call {f : FuncId} {xs : List Operand} {vs : List Value} {ts : Array TypeId} {R : Value → Hp → Prop} (he : enters P f = true) (hx : evs E xs = some vs) (hS : Ctr P f vs L R) :
    Do P n E L (.call ⟨.value (.func f), xs.toArray, ts⟩) ty R := fun _ _ _ _ a w hF hO => by
  refine ⟨?_⟩
  unfold LeadsR
  simp only [execOp, resolve, List.map_toArray, hF.evs hx]
  simp [Act.eval, Deferred.ofValue, invoke, run_callFunc he]
  exact (hS w hO).mono fun e w' ⟨v, L', h1, h2, h3⟩ => ⟨v, h1, L', h2, h3⟩
/-- A call of a function value: what it captured comes behind its arguments. -/
theorem d_callv {g : Operand} {f : FuncId} {cs : List Value} {xs : List Operand} {vs : List Value} {ts : Array TypeId} {R : Value → Hp → Prop} (he : enters P f = true) (hg : ev E g = some (.func (.func f) #[] ⟨cs⟩)) (hx : evs E xs = some vs) (hS : Ctr P f (vs ++ cs) L R) :
    Do P n E L (.call ⟨.value g, xs.toArray, ts⟩) ty R := fun _ _ _ _ a w hF hO => by
  refine ⟨?_⟩
  unfold LeadsR
  simp only [execOp, resolve, List.map_toArray, hF.evs hx, hF.ev hg]
  simp [Deferred.ofValue, invoke, run_callFunc he]
  exact (hS w hO).mono fun e w' ⟨v, L', h1, h2, h3⟩ => ⟨v, h1, L', h2, h3⟩
end
end Go.SL
