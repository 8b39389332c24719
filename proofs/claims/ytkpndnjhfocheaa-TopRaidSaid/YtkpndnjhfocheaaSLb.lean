/- One law for each kind of operation that computes or reads, in the frame logic. -/
import Derived.Test.YtkpndnjhfocheaaSLa
import Derived.OwnWalk
namespace Go.SL
variable {X : Inhabited Outside}

abbrev S (l : List UInt8) : Value := .string ⟨⟨l⟩⟩
abbrev row (T : TypeId) (cs : List Value) : Obj := .cells ⟨cs⟩ T (0, 0)
abbrev ptr (b off : Nat) : Value := .pointer (some ⟨b, off, none⟩)
abbrev sl (b off len cap : Nat) : Value := .slice (some ⟨b, off, none⟩) len cap
abbrev int (i : Int) : Value := .int .i64 i

def nth {α : Type} : List α → Nat → Option α
  | [], _ => none
  | x :: _, 0 => some x
  | _ :: r, i + 1 => nth r i
theorem nth_eq {α : Type} : ∀ (l : List α) (i : Nat), nth l i = l[i]?
  | [], i => by simp [nth]
  | x :: r, 0 => by simp [nth]
  | x :: r, i + 1 => by simp [nth, nth_eq r i]
theorem nth_mem {α : Type} {l : List α} {i : Nat} {x : α} (h : nth l i = some x) : x ∈ l := by
  rw [nth_eq] at h; exact List.mem_of_getElem? h

/-- Is a type's variable one cell, by its kind? -/
def scal (P : Program) (T : TypeId) : Bool :=
  match P.underlying T with
  | some (.struct _) | some (.array _ _) | none => false
  | _ => true
def szB (P : Program) (T : TypeId) (k : Nat) : Bool := ((P.info? T).map (·.size)) == some k
def aggB (P : Program) (T : TypeId) : Bool :=
  match P.underlying T with
  | some (.struct _) | some (.array _ _) => true
  | _ => false

section
variable {P : Program} {n : Nat} {E : Env} {L : Hp} {ty T T' : TypeId} {x y : Operand}

theorem Own.cell {w : World} (h : Own w L) {i b off : Nat} {cs : List Value} {T : TypeId} {fz : Nat × Nat} {v : Value} (hL : nth L i = some (b, .cells ⟨cs⟩ T fz)) (hc : nth cs off = some v) :
    w.cell? ⟨b, off, none⟩ = some v := by
  have h1 := h.mem b _ (nth_mem hL)
  rw [nth_eq] at hc
  simp [World.cell?, h1, hc]

theorem run_isAgg_no {w : World} (h : scal P T = true) : (isAgg T).run P w = .ok false w := by
  unfold scal at h
  cases hd : P.underlying T with
  | none => simp [hd] at h
  | some d =>
    simp only [hd] at h
    cases d <;> first | (simp at h; done) | simp [isAgg, run_underlying hd]
theorem run_isAgg_yes {w : World} (h : aggB P T = true) : (isAgg T).run P w = .ok true w := by
  unfold aggB at h
  cases hd : P.underlying T with
  | none => simp [hd] at h
  | some d =>
    simp only [hd] at h
    cases d <;> first | (simp at h; done) | simp [isAgg, run_underlying hd]
theorem run_sizeOf {w : World} {k : Nat} (h : szB P T k = true) : (sizeOf T).run P w = .ok k w := by
  unfold szB at h
  cases hi : P.info? T with
  | none => simp [hi] at h
  | some i =>
    simp [hi] at h
    simp [sizeOf, typeInfo, hi, h]

/-! moving -/
theorem y_move {v : Value} (hx : ev E x = some v) : Pu P n E (.move x) ty v := fun _ _ _ _ a hF w => by
  simp only [execOp, hF.ev hx]; rfl
theorem y_assign {v : Value} (hx : ev E x = some v) : Pu P n E (.assign x) ty v := fun _ _ _ _ a hF w => by
  simp only [execOp, hF.ev hx]; rfl
theorem y_pickT {c : Operand} {v : Value} (hc : ev E c = some (.bool true)) (hx : ev E x = some v) : Pu P n E (.pick c x y) ty v := fun _ _ _ _ a hF w => by
  simp only [execOp, hF.ev hc, hF.ev hx]; rfl
theorem y_pickF {c : Operand} {v : Value} (hc : ev E c = some (.bool false)) (hx : ev E y = some v) : Pu P n E (.pick c x y) ty v := fun _ _ _ _ a hF w => by
  simp only [execOp, hF.ev hc, hF.ev hx]; rfl
theorem y_nil {b off : Nat} (hx : ev E x = some (ptr b off)) : Pu P n E (.nilCheck x) ty (ptr b off) := fun _ _ _ _ a hF w => by
  simp only [execOp, hF.ev hx]; rfl
theorem y_extract {vs : List Value} {i : Nat} {v : Value} (hx : ev E x = some (.tuple ⟨vs⟩)) (hv : nth vs i = some v) : Pu P n E (.extract x i) ty v := fun _ _ _ _ a hF w => by
  rw [nth_eq] at hv
  simp only [execOp, hF.ev hx, Instr.extract]
  simp [hv, go_sem]
theorem y_not {p : Prop} [Decidable p] (hx : ev E x = some (.bool (decide p))) : Pu P n E (.unOp .not T x) ty (.bool (decide (¬ p))) := fun _ _ _ _ a hF w => by
  simp only [execOp, hF.ev hx, decide_not]; rfl
theorem y_notT (hx : ev E x = some (.bool true)) : Pu P n E (.unOp .not T x) ty (.bool false) := fun _ _ _ _ a hF w => by
  simp only [execOp, hF.ev hx]; rfl
theorem y_notF (hx : ev E x = some (.bool false)) : Pu P n E (.unOp .not T x) ty (.bool true) := fun _ _ _ _ a hF w => by
  simp only [execOp, hF.ev hx]; rfl
theorem y_notB {b : Bool} (hx : ev E x = some (.bool b)) : Pu P n E (.unOp .not T x) ty (.bool (!b)) := fun _ _ _ _ a hF w => by
  simp only [execOp, hF.ev hx]; rfl
theorem y_neg {i : Int} (hx : ev E x = some (int i)) (h1 : -9223372036854775807 ≤ i) (h2 : i ≤ 9223372036854775807) : Pu P n E (.unOp .neg T x) ty (int (- i)) := fun _ _ _ _ a hF w => by
  simp only [execOp, hF.ev hx, Op.unary, Op.intArith]
  rw [IntWalk.i64_in _ (by omega), Int.zero_sub]; rfl
theorem y_makeFunc0 {fn : Fn} : Pu P n E (.makeFunc fn #[] #[]) ty (.func fn #[] #[]) := fun _ _ _ _ a _ w => by simp [execOp, Instr.makeFunc, go_sem]
theorem y_makeFunc1 {fn : Fn} {v : Value} (hx : ev E x = some v) : Pu P n E (.makeFunc fn #[] #[x]) ty (.func fn #[] #[v]) := fun _ _ _ _ a hF w => by
  simp only [execOp, List.map_toArray, List.map_cons, List.map_nil, hF.ev hx]; rfl
theorem y_makeFunc2 {fn : Fn} {v u : Value} (hx : ev E x = some v) (hy : ev E y = some u) : Pu P n E (.makeFunc fn #[] #[x, y]) ty (.func fn #[] #[v, u]) := fun _ _ _ _ a hF w => by
  simp only [execOp, List.map_toArray, List.map_cons, List.map_nil, hF.ev hx, hF.ev hy]; rfl

/-! whole numbers -/
theorem y_arith {op : BinOp} {k : IntKind} {i j r : Int} (hx : ev E x = some (.int k i)) (hy : ev E y = some (.int k j))
    (hr : Op.intArith op k i j = pure (.int k r)) (hop : op = .add ∨ op = .sub ∨ op = .mul) : Pu P n E (.binOp op T x y T') ty (.int k r) := fun _ _ _ _ a hF w => by
  simp only [execOp, hF.ev hx, hF.ev hy]
  have h : (do eqGuard op T x y (.int k i) (.int k j); binOp op T (.int k i) (.int k j)) = Op.intArith op k i j := by
    rcases hop with rfl | rfl | rfl <;> cases k <;> rfl
  rw [h, hr]; rfl
theorem y_add {i j : Int} (hx : ev E x = some (int i)) (hy : ev E y = some (int j)) (h : -9223372036854775808 ≤ i + j ∧ i + j ≤ 9223372036854775807) : Pu P n E (.binOp .add T x y T') ty (int (i + j)) :=
  y_arith hx hy (by simp only [Op.intArith]; rw [IntWalk.i64_in _ h]) (.inl rfl)
theorem y_sub {i j : Int} (hx : ev E x = some (int i)) (hy : ev E y = some (int j)) (h : -9223372036854775808 ≤ i - j ∧ i - j ≤ 9223372036854775807) : Pu P n E (.binOp .sub T x y T') ty (int (i - j)) :=
  y_arith hx hy (by simp only [Op.intArith]; rw [IntWalk.i64_in _ h]) (.inr (.inl rfl))
theorem y_mul {i j : Int} (hx : ev E x = some (int i)) (hy : ev E y = some (int j)) (h : -9223372036854775808 ≤ i * j ∧ i * j ≤ 9223372036854775807) : Pu P n E (.binOp .mul T x y T') ty (int (i * j)) :=
  y_arith hx hy (by simp only [Op.intArith]; rw [IntWalk.i64_in _ h]) (.inr (.inr rfl))
theorem y_addW {k : IntKind} {i j : Int} (hx : ev E x = some (.int k i)) (hy : ev E y = some (.int k j)) : Pu P n E (.binOp .add T x y T') ty (.int k (k.wrap (i + j))) := y_arith hx hy rfl (.inl rfl)
theorem y_subW {k : IntKind} {i j : Int} (hx : ev E x = some (.int k i)) (hy : ev E y = some (.int k j)) : Pu P n E (.binOp .sub T x y T') ty (.int k (k.wrap (i - j))) := y_arith hx hy rfl (.inr (.inl rfl))
theorem y_mulW {k : IntKind} {i j : Int} (hx : ev E x = some (.int k i)) (hy : ev E y = some (.int k j)) : Pu P n E (.binOp .mul T x y T') ty (.int k (k.wrap (i * j))) := y_arith hx hy rfl (.inr (.inr rfl))
theorem m_u8 (i : Int) : IntKind.u8.wrap i = i % 256 := by rw [IntKind.wrap_u8]
theorem m_u16 (i : Int) : IntKind.u16.wrap i = i % 65536 := by simp [IntKind.wrap, IntKind.bits, IntKind.signed]
theorem m_u32 (i : Int) : IntKind.u32.wrap i = i % 4294967296 := by rw [IntKind.wrap_u32]
theorem m_u64 (i : Int) : IntKind.u64.wrap i = i % 18446744073709551616 := by simp [IntKind.wrap, IntKind.bits, IntKind.signed]
theorem y_add32 {i j : Int} (hx : ev E x = some (.int .u32 i)) (hy : ev E y = some (.int .u32 j)) : Pu P n E (.binOp .add T x y T') ty (.int .u32 ((i + j) % 4294967296)) := y_arith hx hy (by rw [← m_u32]; rfl) (.inl rfl)
theorem y_sub32 {i j : Int} (hx : ev E x = some (.int .u32 i)) (hy : ev E y = some (.int .u32 j)) : Pu P n E (.binOp .sub T x y T') ty (.int .u32 ((i - j) % 4294967296)) := y_arith hx hy (by rw [← m_u32]; rfl) (.inr (.inl rfl))

theorem y_quo {i j : Int} (hx : ev E x = some (int i)) (hy : ev E y = some (int j)) (h : 0 ≤ i ∧ i ≤ 9223372036854775807 ∧ 1 ≤ j) : Pu P n E (.binOp .quo T x y T') ty (int (i / j)) := fun _ _ _ _ a hF w => by
  simp only [execOp, hF.ev hx, hF.ev hy]
  have h' : (do eqGuard .quo T x y (int i) (int j); binOp .quo T (int i) (int j)) = Op.intDiv .quo .i64 i j := rfl
  rw [h', Op.intDiv, if_neg (by omega), IntWalk.i64_quo _ _ h]; rfl
theorem y_rem {i j : Int} {k : IntKind} (hx : ev E x = some (.int k i)) (hy : ev E y = some (.int k j)) (h : 0 ≤ i ∧ 1 ≤ j) : Pu P n E (.binOp .rem T x y T') ty (.int k (i % j)) := fun _ _ _ _ a hF w => by
  simp only [execOp, hF.ev hx, hF.ev hy]
  have h' : (do eqGuard .rem T x y (.int k i) (.int k j); binOp .rem T (.int k i) (.int k j)) = Op.intDiv .rem k i j := by cases k <;> rfl
  rw [h', Op.intDiv, if_neg (by omega), Int.tmod_eq_emod_of_nonneg h.1]; rfl
theorem y_quoU {i j : Int} {k : IntKind} (hx : ev E x = some (.int k i)) (hy : ev E y = some (.int k j)) (h : 0 ≤ i ∧ 1 ≤ j) (hk : k.wrap (i / j) = i / j) : Pu P n E (.binOp .quo T x y T') ty (.int k (i / j)) := fun _ _ _ _ a hF w => by
  simp only [execOp, hF.ev hx, hF.ev hy]
  have h' : (do eqGuard .quo T x y (.int k i) (.int k j); binOp .quo T (.int k i) (.int k j)) = Op.intDiv .quo k i j := by cases k <;> rfl
  rw [h', Op.intDiv, if_neg (by omega)]
  rw [Int.tdiv_eq_ediv_of_nonneg h.1, hk]; rfl

theorem y_cmp {op : BinOp} {k : IntKind} {i j : Int} {b : Bool} (hx : ev E x = some (.int k i)) (hy : ev E y = some (.int k j))
    (hr : Op.intCmp op i j = pure (.bool b)) (hop : op = .lss ∨ op = .leq ∨ op = .gtr ∨ op = .geq ∨ op = .eql ∨ op = .neq) : Pu P n E (.binOp op T x y T') ty (.bool b) := fun _ _ _ _ a hF w => by
  simp only [execOp, hF.ev hx, hF.ev hy]
  have h : (do eqGuard op T x y (.int k i) (.int k j); binOp op T (.int k i) (.int k j)) = Op.intCmp op i j := by
    rcases hop with rfl | rfl | rfl | rfl | rfl | rfl <;> cases k <;> rfl
  rw [h, hr]; rfl
theorem y_lss {k : IntKind} {i j : Int} (hx : ev E x = some (.int k i)) (hy : ev E y = some (.int k j)) : Pu P n E (.binOp .lss T x y T') ty (.bool (decide (i < j))) := y_cmp hx hy rfl (by simp)
theorem y_leq {k : IntKind} {i j : Int} (hx : ev E x = some (.int k i)) (hy : ev E y = some (.int k j)) : Pu P n E (.binOp .leq T x y T') ty (.bool (decide (i ≤ j))) := y_cmp hx hy rfl (by simp)
theorem y_gtr {k : IntKind} {i j : Int} (hx : ev E x = some (.int k i)) (hy : ev E y = some (.int k j)) : Pu P n E (.binOp .gtr T x y T') ty (.bool (decide (i > j))) := y_cmp hx hy rfl (by simp)
theorem y_geq {k : IntKind} {i j : Int} (hx : ev E x = some (.int k i)) (hy : ev E y = some (.int k j)) : Pu P n E (.binOp .geq T x y T') ty (.bool (decide (i ≥ j))) := y_cmp hx hy rfl (by simp)
theorem y_eql {k : IntKind} {i j : Int} (hx : ev E x = some (.int k i)) (hy : ev E y = some (.int k j)) : Pu P n E (.binOp .eql T x y T') ty (.bool (decide (i = j))) := y_cmp hx hy rfl (by simp)
theorem y_neq {k : IntKind} {i j : Int} (hx : ev E x = some (.int k i)) (hy : ev E y = some (.int k j)) : Pu P n E (.binOp .neq T x y T') ty (.bool (decide (i ≠ j))) := y_cmp hx hy (congrArg (fun b => (Pure.pure (Value.bool b) : Sem Value)) (by by_cases h : i = j <;> simp [h] : (i != j) = decide (i ≠ j))) (by simp)
theorem run_eqnil {w : World} {b off : Nat} {e : TypeId} (hu : P.underlying T = some (.pointer e)) : (Op.equal T (ptr b off) (.pointer none)).run P w = .ok false w := by
  show (Op.equalIn (9999 + 1) T (ptr b off) (.pointer none)).run P w = _
  unfold Op.equalIn
  simp [run_underlying hu]
theorem y_eqlnil {b off : Nat} {e : TypeId} (hu : P.underlying T = some (.pointer e)) (hx : ev E x = some (ptr b off)) (hy : ev E y = some (.pointer none)) : Pu P n E (.binOp .eql T x y T') ty (.bool false) := fun _ _ _ _ a hF w => by
  simp only [execOp, hF.ev hx, hF.ev hy]
  have h' : (do eqGuard .eql T x y (ptr b off) (.pointer none); binOp .eql T (ptr b off) (.pointer none)) = (do pure (.bool (← Op.equal T (ptr b off) (.pointer none)))) := rfl
  rw [h']
  simp [run_eqnil hu]
theorem y_neqnil {b off : Nat} {e : TypeId} (hu : P.underlying T = some (.pointer e)) (hx : ev E x = some (ptr b off)) (hy : ev E y = some (.pointer none)) : Pu P n E (.binOp .neq T x y T') ty (.bool true) := fun _ _ _ _ a hF w => by
  simp only [execOp, hF.ev hx, hF.ev hy]
  have h' : (do eqGuard .neq T x y (ptr b off) (.pointer none); binOp .neq T (ptr b off) (.pointer none)) = (do pure (.bool (!(← Op.equal T (ptr b off) (.pointer none))))) := rfl
  rw [h']
  simp [run_eqnil hu]

theorem y_conv {src dst : TypeId} {k k' : IntKind} {d : TypeDesc} {i r : Int} (hs : P.underlying src = some d) (hd : P.underlying dst = some (.int k')) (hx : ev E x = some (.int k i)) (hr : k'.wrap i = r) : Pu P n E (.convert src dst x) ty (.int k' r) := fun _ _ _ _ a hF w => by
  subst hr
  simp only [execOp, hF.ev hx]
  cases d <;> simp [convert, run_underlying hs, run_underlying hd, Conv.intToInt]
theorem y_min {i j : Int} {k : IntKind} {ts : Array TypeId} (hx : ev E x = some (.int k i)) (hy : ev E y = some (.int k j)) : Pu P n E (.call ⟨.builtin .min, #[x, y], ts⟩) ty (.int k (min i j)) := fun _ _ _ _ a hF w => by
  simp only [execOp, resolve, List.map_toArray, List.map_cons, List.map_nil, hF.ev hx, hF.ev hy]
  have e : (if j < i then j else i) = min i j := by split <;> omega
  simp [invoke, builtin, Builtin.min_, Builtin.min2, go_sem, e]
theorem y_max {i j : Int} {k : IntKind} {ts : Array TypeId} (hx : ev E x = some (.int k i)) (hy : ev E y = some (.int k j)) : Pu P n E (.call ⟨.builtin .max, #[x, y], ts⟩) ty (.int k (max i j)) := fun _ _ _ _ a hF w => by
  simp only [execOp, resolve, List.map_toArray, List.map_cons, List.map_nil, hF.ev hx, hF.ev hy]
  have e : (if i < j then j else i) = max i j := by split <;> omega
  have e' : (if j > i then j else i) = max i j := by split <;> omega
  simp [invoke, builtin, Builtin.max_, Builtin.max2, go_sem, e]
end
end Go.SL
