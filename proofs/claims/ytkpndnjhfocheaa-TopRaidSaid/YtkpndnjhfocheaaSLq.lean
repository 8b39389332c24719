/- A store into a row that bears a mark behind its end; rows given by a function. -/
import Derived.Test.YtkpndnjhfocheaaSLp
namespace Go.SL
variable {X : Inhabited Outside}
section
variable {P : Program} {n : Nat} {E : Env} {L : Hp} {ty T T' : TypeId} {x y : Operand}
theorem Own.setRowF {w : World} {L : Hp} {i b : Nat} {cs : List Value} {T : TypeId} {fz : Nat × Nat} (h : Own w L) (hL : nth L i = some (b, .cells ⟨cs⟩ T fz)) (cs' : List Value) : Own (w.setRow b cs'.toArray) (setAt L i (.cells ⟨cs'⟩ T fz)) :=
  h.set hL (setRow_heap w b _ _ T fz (h.mem b _ (nth_mem hL))) (fun k hk => setRow_other w b k _ hk) ⟨rfl, rfl, rfl⟩
theorem d_storeM (i : Nat) {b off : Nat} {cs : List Value} {fz : Nat × Nat} {v : Value} (hx : ev E x = some (ptr b off)) (hy : ev E y = some v) (hL : nth L i = some (b, .cells ⟨cs⟩ T' fz)) (hoff : off < cs.length) (hf : off < fz.1) (hv : v.oneCell' = true) (hz : szB P T 1 = true) :
    Do P n E L (.store T x y) ty (fun _ L' => L' = setAt L i (.cells ⟨cs.set off v⟩ T' fz)) := fun _ _ _ _ a w hF hO => by
  have hb := hO.mem b _ (nth_mem hL)
  have hvc : v.cells = #[v] := by cases v <;> simp_all [Value.cells, Value.oneCell']
  have hcell : w.cell? ⟨b, off, none⟩ = some cs[off] := by simp [World.cell?, hb, hoff]
  have hfro : w.frozen? ⟨b, off, none⟩ = false := by
    obtain ⟨lo, hi⟩ := fz
    simp only [World.frozen?, hb, Bool.and_eq_false_iff, decide_eq_false_iff_not]
    left
    simp only at hf
    omega
  have hst : (store ⟨b, off, none⟩ v).run P w = .ok () (w.setRow b (cs.set off v).toArray) := by
    rw [run_store P w _ v _ hv, hcell]
    simp [hfro, setCell_eq_setRow w b off ⟨cs⟩ T' fz v hb]
  have hr : (Instr.storeAt T (ptr b off) v).run P w = .ok () (w.setRow b (cs.set off v).toArray) := by
    have h0 : (⟨b, off, none⟩ : Addr).add 0 = ⟨b, off, none⟩ := by rw [addr_add]; rfl
    simp [Instr.storeAt, Instr.sureAddr, storeVar, run_sizeOf hz, hvc, storeCells, h0, hst]
  exact leads_skip (by simp only [execOp, hF.ev hx, hF.ev hy]; simp [hr]) ⟨_, rfl, hO.setRowF hL _⟩
end
/-! bools -/
theorem y_eqB {P : Program} {n : Nat} {E : Env} {ty T T' : TypeId} {x y : Operand} {p q r : Bool} (hu : P.underlying T = some .bool) (hx : ev E x = some (.bool p)) (hy : ev E y = some (.bool q)) (hr : (p == q) = r) : Pu P n E (.binOp .eql T x y T') ty (.bool r) := fun _ _ _ _ a hF w => by
  simp only [execOp, hF.ev hx, hF.ev hy]
  have h' : (do eqGuard .eql T x y (.bool p) (.bool q); binOp .eql T (.bool p) (.bool q)) = (do pure (.bool (← Op.equal T (.bool p) (.bool q)))) := rfl
  rw [h', ← hr]
  simp [run_equal_bool w T p q hu]
theorem y_neB {P : Program} {n : Nat} {E : Env} {ty T T' : TypeId} {x y : Operand} {p q r : Bool} (hu : P.underlying T = some .bool) (hx : ev E x = some (.bool p)) (hy : ev E y = some (.bool q)) (hr : (!(p == q)) = r) : Pu P n E (.binOp .neq T x y T') ty (.bool r) := fun _ _ _ _ a hF w => by
  simp only [execOp, hF.ev hx, hF.ev hy]
  have h' : (do eqGuard .neq T x y (.bool p) (.bool q); binOp .neq T (.bool p) (.bool q)) = (do pure (.bool (!(← Op.equal T (.bool p) (.bool q))))) := rfl
  rw [h', ← hr]
  simp [run_equal_bool w T p q hu]
theorem B8_set {l : List UInt8} {sp : List Value} {q : Nat} (h : q < l.length) (y : UInt8) : (B8 l ++ sp).set q (.int .u8 (y.toNat : Int)) = B8 (l.set q y) ++ sp := by
  rw [List.set_append_left _ _ (by rw [B8_length]; exact h)]
  congr 1
  simp [B8, List.map_set]
theorem B8_nth {l : List UInt8} {sp : List Value} {q : Nat} (h : q < l.length) : nth (B8 l ++ sp) q = some (.int .u8 (l[q].toNat : Int)) := by
  rw [nth_eq, List.getElem?_append_left (by rw [B8_length]; exact h)]
  simp [B8, h]
theorem frow_congr {n : Nat} {g g' : Nat → Value} (h : ∀ q, q < n → g q = g' q) : (List.range n).map g = (List.range n).map g' := List.map_congr_left fun q hq => h q (by simpa using hq)
/-- make, of elements of several cells, all of one value. -/
theorem d_makeN {P : Program} {n : Nat} {E : Env} {L : Hp} {ty T : TypeId} {x y : Operand} {e : TypeId} {z a : Value} {i : Int} (by_ sz : Nat) (hu : P.underlying T = some (.slice e)) (hz : zeroB P e z) (h1 : szB P e sz = true) (hzc : z.cells = ⟨List.replicate sz a⟩) (h0 : 0 < sz) (hb : (P.info? e).map (·.bytes) = some by_) (hx : ev E x = some (int i)) (hy : ev E y = some (int i)) (h : 0 ≤ i ∧ i * by_ ≤ 281474976710656 ∧ i ≤ 9223372036854775807) :
    Do P n E L (.makeSlice T x y) ty (fun u L' => ∃ b, u = sl b 0 i.toNat i.toNat ∧ L' = (b, row e (List.replicate (i.toNat * sz) a)) :: L) := fun _ _ _ _ c w hF hO => by
  have hrow : (Array.range (i.toNat * sz)).map (fun j => (Array.replicate sz a)[j % sz]!) = (List.replicate (i.toNat * sz) a).toArray := by
    apply Array.ext'
    simp only [Array.toList_map, Array.toList_range]
    apply List.ext_getElem?
    intro j
    have hlt : j % sz < sz := Nat.mod_lt j h0
    simp only [List.getElem?_map, List.getElem?_replicate]
    by_cases hj : j < i.toNat * sz
    · simp [hj, hlt]
    · simp [hj]
  cases hi : P.info? e with
  | none => simp [hi] at hb
  | some t =>
    have hb' : t.bytes = by_ := by simpa [hi] using hb
    have hs' : t.size = sz := by simpa [szB, hi] using h1
    have hz' : t.zero = some z := by simpa [zeroB, hi] using hz
    have hw : IntKind.i64.wrap i = i := IntWalk.i64_in _ (by omega)
    have hn1 : ¬ (i < 0) := by omega
    have hn2 : ¬ (281474976710656 < (by_ : Int) * i) := by rw [Int.mul_comm]; omega
    have hr : (Instr.makeSlice T (int i) (int i)).run P w = .ok (sl w.heap.size 0 i.toNat i.toNat) (w.alloc (row e (List.replicate (i.toNat * sz) a))) := by
      by_cases h00 : i.toNat = 0
      · simp [Instr.makeSlice, run_underlying hu, typeInfo, hi, asInt, asIntOf, hw, hb', hn1, hn2, sizeOf, newRow, h00]
        congr 2; rw [show Array.range 0 = #[] from by simp]; simp
      · have hne : ¬ (i.toNat * sz = 0) := by
          intro hc
          rcases Nat.mul_eq_zero.1 hc with h | h <;> omega
        simp [Instr.makeSlice, run_underlying hu, typeInfo, hi, asInt, asIntOf, hw, hb', hn1, hn2, sizeOf, hs', newRow, hne, zeroValue, hz', hzc]
        exact congrArg (fun X => w.alloc (Obj.cells X e)) hrow
    exact leads_value (by simp only [execOp, hF.ev hx, hF.ev hy]; simp [hr]) ⟨_, ⟨_, rfl, rfl⟩, hO.alloc _⟩
/-! rows given by a function -/
def upf {α : Type} (f : Nat → α) (m : Nat) (x : α) : Nat → α := fun q => if q = m then x else f q
theorem upf_self {α : Type} (f : Nat → α) (m : Nat) (x : α) : upf f m x m = x := by simp [upf]
theorem upf_ne {α : Type} (f : Nat → α) {m q : Nat} (x : α) (h : q ≠ m) : upf f m x q = f q := by simp [upf, h]
def frow (n : Nat) (g : Nat → Value) : List Value := (List.range n).map g
theorem frow_len (n : Nat) (g : Nat → Value) : (frow n g).length = n := by simp [frow]
theorem frow_at {n : Nat} (g : Nat → Value) {i : Nat} (h : i < n) : nth (frow n g) i = some (g i) := by
  rw [nth_eq, frow, List.getElem?_map, List.getElem?_range h]; rfl
theorem frow_set {n : Nat} (g : Nat → Value) {i : Nat} (x : Value) : (frow n g).set i x = frow n (upf g i x) := by
  apply List.ext_getElem?
  intro j
  rw [List.getElem?_set, frow_len]
  by_cases hj : j < n
  · simp only [frow, List.getElem?_map, List.getElem?_range hj, Option.map_some]
    by_cases e : i = j
    · subst e; simp [hj, upf]
    · simp [e, upf, Ne.symm e]
  · have h1 : (frow n g)[j]? = none := List.getElem?_eq_none (by rw [frow_len]; omega)
    have h2 : (frow n (upf g i x))[j]? = none := List.getElem?_eq_none (by rw [frow_len]; omega)
    rw [h1, h2]
    split
    · rw [if_neg (by omega)]
    · rfl
theorem frow_cut {n : Nat} (g : Nat → Value) {i : Nat} (h : i + 2 ≤ n) : ((frow n g).drop i).take 2 = [g i, g (i + 1)] := by
  apply List.ext_getElem?
  intro j
  rw [List.getElem?_take, List.getElem?_drop]
  rcases j with _ | _ | j
  · have := frow_at g (show i < n by omega)
    rw [nth_eq] at this
    simpa using this
  · have := frow_at g (show i + 1 < n by omega)
    rw [nth_eq] at this
    simpa using this
  · simp; omega
theorem frow_set2 {n : Nat} (g : Nat → Value) {i : Nat} (x y : Value) (h : i + 2 ≤ n) : (frow n g).take i ++ [x, y] ++ (frow n g).drop (i + 2) = frow n (upf (upf g i x) (i + 1) y) := by
  rw [← frow_set, ← frow_set]
  have hl := frow_len n g
  generalize frow n g = l at *
  subst hl
  rw [List.set_eq_take_append_cons_drop, List.set_eq_take_append_cons_drop, if_pos (by omega : i < l.length)]
  rw [if_pos (by simp; omega)]
  have e1 : (l.take i ++ x :: l.drop (i + 1)).take (i + 1) = l.take i ++ [x] := by
    rw [List.take_append, List.take_of_length_le (by simp; omega)]
    simp only [List.length_take]
    rw [show i + 1 - min i l.length = 1 by omega]
    rfl
  have e2 : (l.take i ++ x :: l.drop (i + 1)).drop (i + 1 + 1) = l.drop (i + 2) := by
    rw [List.drop_append, List.drop_of_length_le (by simp; omega)]
    simp only [List.length_take, List.nil_append]
    rw [show i + 1 + 1 - min i l.length = 2 by omega]
    simp
  rw [e1, e2]
  simp
theorem frow_zeros (n : Nat) (z : Value) : List.replicate n z = frow n fun _ => z := by
  apply List.ext_getElem?
  intro i
  simp only [frow, List.getElem?_replicate, List.getElem?_map]
  by_cases h : i < n
  · simp [h]
  · simp [h]
end Go.SL
