/- Comparing structs and arrays of whole numbers, in the frame logic. -/
import Derived.Test.YtkpndnjhfocheaaSLn
import Derived.Laws.StructEq
import Derived.ChangeKeysEq
namespace Go.SL
variable {X : Inhabited Outside}
section
variable {P : Program} {w : World} {d : Nat} {xs ys : Array Value} {f : Field} {fs : List Field}

theorem run_part_int {t : TypeId} {k : IntKind} {off : Nat} {v : Value} (hu : P.underlying t = some (.int k)) (hx : xs[off]? = some v) : (part t xs off).run P w = .ok v w := by
  have hs : scal P t = true := by simp [scal, hu]
  simp [part, run_isAgg_no hs, hx]
theorem eqF_int {k : IntKind} {a b : Int} (hn : f.name ≠ "_") (hu : P.underlying f.type = some (.int k)) (hx : xs[f.offset]? = some (.int k a)) (hy : ys[f.offset]? = some (.int k b)) :
    (Op.eqFields (d + 1) xs ys (f :: fs)).run P w = if a = b then (Op.eqFields (d + 1) xs ys fs).run P w else .ok false w := by
  simp only [Op.eqFields, hn, ne_eq, not_false_eq_true, if_true, Sem.run_bind, run_part_int hu hx, run_part_int hu hy, Result.andThen_ok, run_equalIn_int w d f.type k k a b hu]
  by_cases h : a = b <;> simp [h]
theorem eqF_agg {x y : Value} {c : Bool} (hn : f.name ≠ "_") (hx : (part f.type xs f.offset).run P w = .ok x w) (hy : (part f.type ys f.offset).run P w = .ok y w) (he : (Op.equalIn d f.type x y).run P w = .ok c w) :
    (Op.eqFields d xs ys (f :: fs)).run P w = if c then (Op.eqFields d xs ys fs).run P w else .ok false w := by
  simp only [Op.eqFields, hn, ne_eq, not_false_eq_true, if_true, Sem.run_bind, hx, hy, Result.andThen_ok, he]
  cases c <;> simp
theorem eqI_int {e : TypeId} {k : IntKind} {i : Nat} {is : List Nat} {a b : Int} (hu : P.underlying e = some (.int k)) (hx : xs[i * 1]? = some (.int k a)) (hy : ys[i * 1]? = some (.int k b)) :
    (Op.eqItems (d + 1) e 1 xs ys (i :: is)).run P w = if a = b then (Op.eqItems (d + 1) e 1 xs ys is).run P w else .ok false w := by
  simp only [Op.eqItems, Sem.run_bind, run_part_int hu hx, run_part_int hu hy, Result.andThen_ok, run_equalIn_int w d e k k a b hu]
  by_cases h : a = b <;> simp [h]
variable {n : Nat} {E : Env} {L : Hp} {ty T T' : TypeId} {x y : Operand}
def noGuard (P : Program) (T : TypeId) : Bool := !P.eqGuardType P.depth T
theorem run_eqGuard {op : BinOp} {xs ys : Array Value} (h : noGuard P T = true) : (eqGuard op T x y (.agg xs) (.agg ys)).run P w = .ok () w := by
  simp only [noGuard, Bool.not_eq_true'] at h
  unfold eqGuard
  cases op <;> simp [h, run_program]
theorem y_eqAgg {xs ys : Array Value} {b : Bool} (hg : noGuard P T = true) (he : ∀ w, (Op.equal T (.agg xs) (.agg ys)).run P w = .ok b w) (hx : ev E x = some (.agg xs)) (hy : ev E y = some (.agg ys)) :
    Pu P n E (.binOp .eql T x y T') ty (.bool b) := fun _ _ _ _ a hF w => by
  simp only [execOp, hF.ev hx, hF.ev hy, Sem.run_bind, run_eqGuard hg, Result.andThen_ok]
  simp [binOp, he]
theorem y_neAgg {xs ys : Array Value} {b : Bool} (hg : noGuard P T = true) (he : ∀ w, (Op.equal T (.agg xs) (.agg ys)).run P w = .ok b w) (hx : ev E x = some (.agg xs)) (hy : ev E y = some (.agg ys)) :
    Pu P n E (.binOp .neq T x y T') ty (.bool (!b)) := fun _ _ _ _ a hF w => by
  simp only [execOp, hF.ev hx, hF.ev hy, Sem.run_bind, run_eqGuard hg, Result.andThen_ok]
  simp [binOp, he]
end

theorem Iter.mono {X : Inhabited Outside} {P : Program} {gf : FuncId} {lb : List Value} {A : Hp} {S S' : List Value → Prop} {N : Nat} {Ok : Value → Prop} (h : Iter P gf lb A S N Ok) (hs : ∀ xs, S xs → S' xs) : Iter P gf lb A S' N Ok :=
  fun l J B0 hJ h0 => (h l J B0 hJ h0).mono fun _ _ ⟨xs, B, a, b, c⟩ => ⟨xs, B, hs xs a, b, c⟩
end Go.SL
