/- The laws of operations that look at memory or change it, in the frame logic. -/
import Derived.Test.YtkpndnjhfocheaaSLb
namespace Go.SL
variable {X : Inhabited Outside}

def setAt : Hp → Nat → Obj → Hp
  | [], _, _ => []
  | (b, _) :: r, 0, o => (b, o) :: r
  | x :: r, i + 1, o => x :: setAt r i o
theorem setAt_fst : ∀ (L : Hp) (i : Nat) (o : Obj), (setAt L i o).map Prod.fst = L.map Prod.fst
  | [], _, _ => rfl
  | (b, _) :: r, 0, o => rfl
  | x :: r, i + 1, o => by simp [setAt, setAt_fst r i o]
theorem setAt_mem : ∀ (L : Hp) (i : Nat) (o : Obj) (b c : Nat) (o0 u : Obj), (L.map Prod.fst).Nodup → nth L i = some (b, o0) → (c, u) ∈ setAt L i o → (c = b ∧ u = o) ∨ (c ≠ b ∧ (c, u) ∈ L)
  | [], _, _, _, _, _, _, _, h, _ => by simp [nth] at h
  | (b', o') :: r, 0, o, b, c, o0, u, hn, h, hm => by
    simp [nth] at h
    obtain ⟨rfl, rfl⟩ := h
    simp only [setAt, List.mem_cons] at hm
    rcases hm with hm | hm
    · simp at hm; exact .inl hm
    · refine .inr ⟨fun e => ?_, List.mem_cons_of_mem _ hm⟩
      subst e
      simp only [List.map_cons, List.nodup_cons] at hn
      exact hn.1 (List.mem_map.2 ⟨_, hm, rfl⟩)
  | (b', o') :: r, i + 1, o, b, c, o0, u, hn, h, hm => by
    simp only [nth] at h
    simp only [setAt, List.mem_cons] at hm
    simp only [List.map_cons, List.nodup_cons] at hn
    rcases hm with hm | hm
    · simp at hm
      obtain ⟨rfl, rfl⟩ := hm
      refine .inr ⟨fun e => ?_, List.mem_cons_self⟩
      subst e
      exact hn.1 (List.mem_map.2 ⟨_, nth_mem h, rfl⟩)
    · rcases setAt_mem r i o b c o0 u hn.2 h hm with h1 | h1
      · exact .inl h1
      · exact .inr ⟨h1.1, List.mem_cons_of_mem _ h1.2⟩

theorem Own.set {w w' : World} {L : Hp} {i b : Nat} {o0 o : Obj} (h : Own w L) (hL : nth L i = some (b, o0)) (hb : w'.heap[b]? = some o) (hk : ∀ k, k ≠ b → w'.heap[k]? = w.heap[k]?) (hs : Same w w') : Own w' (setAt L i o) := by
  refine ⟨by rw [setAt_fst]; exact h.nodup, fun c u hm => ?_, h.same.trans hs⟩
  rcases setAt_mem L i o b c o0 u h.nodup hL hm with ⟨rfl, rfl⟩ | ⟨hne, hm'⟩
  · exact hb
  · rw [hk c hne]; exact h.mem c u hm'

theorem setRow_other (w : World) (g k : Nat) (cs : Array Value) (h : k ≠ g) : (w.setRow g cs).heap[k]? = w.heap[k]? := by
  simp only [World.setRow, Array.getElem?_modify]
  rw [if_neg (fun e => h e.symm)]

theorem Own.setRow {w : World} {L : Hp} {i b : Nat} {cs : List Value} {T : TypeId} {fz : Nat × Nat} (h : Own w L) (hL : nth L i = some (b, .cells ⟨cs⟩ T fz)) (cs' : List Value) : Own (w.setRow b cs'.toArray) (setAt L i (.cells ⟨cs'⟩ T fz)) :=
  h.set hL (setRow_heap w b _ _ T fz (h.mem b _ (nth_mem hL))) (fun k hk => setRow_other w b k _ hk) ⟨rfl, rfl, rfl⟩

theorem Own.lt {w : World} {L : Hp} (h : Own w L) {b : Nat} {o : Obj} (hm : (b, o) ∈ L) : b < w.heap.size := by
  have := h.mem b o hm
  rcases Nat.lt_or_ge b w.heap.size with h' | h'
  · exact h'
  · simp [Array.getElem?_eq_none h'] at this

theorem Own.alloc {w : World} {L : Hp} (h : Own w L) (o : Obj) : Own (w.alloc o) ((w.heap.size, o) :: L) := by
  refine ⟨?_, fun b u hm => ?_, h.same.trans ⟨rfl, rfl, rfl⟩⟩
  · simp only [List.map_cons, List.nodup_cons]
    refine ⟨fun hm => ?_, h.nodup⟩
    obtain ⟨⟨b, u⟩, hm', he⟩ := List.mem_map.1 hm
    have hlt := h.lt hm'
    have hb : b = w.heap.size := he
    omega
  · simp only [List.mem_cons, Prod.mk.injEq] at hm
    rcases hm with ⟨rfl, rfl⟩ | hm
    · show (w.heap.push _)[w.heap.size]? = _
      simp
    · have hlt := h.lt hm
      show (w.heap.push o)[b]? = _
      rw [Array.getElem?_push, if_neg (by omega)]
      exact h.mem b u hm
theorem Own.drew {w : World} {L : Hp} (h : Own w L) : Own w.drew L := ⟨h.nodup, h.mem, h.same.trans ⟨rfl, rfl, rfl⟩⟩

theorem leads_value {P : Program} {o : Oper} {a : Act} {w w' : World} {v : Value} {R : Value → World → Prop} (h : (execOp a.eval o).run P w = .ok (.value v) w') (hR : R v w') : Leads P o a w R := ⟨by unfold LeadsR; rw [h]; exact hR⟩
theorem leads_skip {P : Program} {o : Oper} {a : Act} {w w' : World} {R : Value → World → Prop} (h : (execOp a.eval o).run P w = .ok .skip w') (hR : R undef w') : Leads P o a w R := ⟨by unfold LeadsR; rw [h]; exact hR⟩

section
variable {P : Program} {n : Nat} {E : Env} {L : Hp} {ty T T' : TypeId} {x y : Operand}

theorem addr_add (b off j : Nat) : (⟨b, off, none⟩ : Addr).add j = ⟨b, off + j, none⟩ := by
  unfold Addr.add
  split
  · rename_i h; subst h; rfl
  · rfl

/-! reading -/
theorem y_load (i : Nat) {b off : Nat} {cs : List Value} {fz : Nat × Nat} {v : Value} (hx : ev E x = some (ptr b off)) (hL : nth L i = some (b, .cells ⟨cs⟩ T' fz)) (hc : nth cs off = some v) (hs : scal P T = true) : Rd P n E L (.load T x) ty v := fun _ _ _ _ a hF w hO => by
  simp only [execOp, hF.ev hx]
  simp [Instr.loadAt, Instr.sureAddr, loadVar, run_isAgg_no hs, hO.cell hL hc]
/-- k cells of a row, from off on -/
def cut : List Value → Nat → Nat → List Value
  | cs, off, k => (cs.drop off).take k
theorem y_loadAgg (i : Nat) {b off k : Nat} {cs vs : List Value} {fz : Nat × Nat} (hx : ev E x = some (ptr b off)) (hL : nth L i = some (b, .cells ⟨cs⟩ T' fz)) (hc : (cs.drop off).take k = vs) (hl : vs.length = k) (hs : aggB P T = true) (hz : szB P T k = true) : Rd P n E L (.load T x) ty (.agg ⟨vs⟩) := fun _ _ _ _ a hF w hO => by
  subst hl
  have hcells : ∀ j v, vs[j]? = some v → w.cell? ((⟨b, off, none⟩ : Addr).add j) = some v := fun j v hv => by
    rw [addr_add]
    refine hO.cell hL ?_
    have hj : j < vs.length := (List.getElem?_eq_some_iff.1 hv).1
    rw [nth_eq, ← hv, ← hc, List.getElem?_take, if_pos hj, List.getElem?_drop]
  have h := run_loadCells_list (P := P) w ⟨b, off, none⟩ vs hcells
  simp only [execOp, hF.ev hx]
  simp [Instr.loadAt, Instr.sureAddr, loadVar, run_isAgg_yes hs, run_sizeOf hz, h]

def allOne (l : List Value) : Bool := l.all Value.oneCell'

theorem d_store (i : Nat) {b off : Nat} {cs : List Value} {v : Value} (hx : ev E x = some (ptr b off)) (hy : ev E y = some v) (hL : nth L i = some (b, row T' cs)) (hoff : Nat.blt off cs.length = true) (hv : v.oneCell' = true) (hz : szB P T 1 = true) :
    Do P n E L (.store T x y) ty (fun _ L' => L' = setAt L i (row T' (cs.set off v))) := fun _ _ _ _ a w hF hO => by
  have hoff' : off + 1 ≤ cs.length := Nat.le_of_ble_eq_true hoff
  have hvc : v.cells = #[v] := by cases v <;> simp_all [Value.cells, Value.oneCell']
  have hst := run_storeCells_at P b off T' [v] 0 ⟨cs⟩ w (hO.mem b _ (nth_mem hL)) (by simpa using hoff') (by simpa using hv)
  have he : cs.take off ++ [v] ++ cs.drop (off + 1) = cs.set off v := by
    rw [List.set_eq_take_append_cons_drop, if_pos (by omega)]; simp
  have hr : (Instr.storeAt T (ptr b off) v).run P w = .ok () (w.setRow b (cs.set off v).toArray) := by
    rw [← he]
    simpa [Instr.storeAt, Instr.sureAddr, storeVar, run_sizeOf hz, hvc] using hst
  exact leads_skip (by simp only [execOp, hF.ev hx, hF.ev hy]; simp [hr]) ⟨_, rfl, hO.setRow hL _⟩
theorem d_storeAgg (i : Nat) {b off k : Nat} {cs vs : List Value} (hx : ev E x = some (ptr b off)) (hy : ev E y = some (.agg ⟨vs⟩)) (hL : nth L i = some (b, row T' cs)) (hoff : off + k ≤ cs.length) (hl : vs.length = k) (hv : allOne vs = true) (hz : szB P T k = true) :
    Do P n E L (.store T x y) ty (fun _ L' => L' = setAt L i (row T' (cs.take off ++ vs ++ cs.drop (off + k)))) := fun _ _ _ _ a w hF hO => by
  subst hl
  have hst := run_storeCells_at P b off T' vs 0 ⟨cs⟩ w (hO.mem b _ (nth_mem hL)) (by simpa using hoff) (by simpa [allOne] using hv)
  have hr : (Instr.storeAt T (ptr b off) (.agg ⟨vs⟩)).run P w = .ok () (w.setRow b (cs.take off ++ vs ++ cs.drop (off + vs.length)).toArray) := by
    simpa [Instr.storeAt, Instr.sureAddr, storeVar, run_sizeOf hz, Value.cells] using hst
  exact leads_skip (by simp only [execOp, hF.ev hx, hF.ev hy]; simp [hr]) ⟨_, rfl, hO.setRow hL _⟩

/-! new blocks -/
def zeroB (P : Program) (T : TypeId) (z : Value) : Prop := (P.info? T).bind (·.zero) = some z
theorem run_zeroValue {w : World} {z : Value} (h : zeroB P T z) : (zeroValue T).run P w = .ok z w := by
  unfold zeroB at h
  cases hi : P.info? T with
  | none => simp [hi] at h
  | some i => simp [hi] at h; simp [zeroValue, typeInfo, hi, h]
theorem d_box {v : Value} (hx : ev E x = some v) : Do P n E L (.box T x) ty (fun u L' => ∃ b, u = ptr b 0 ∧ L' = (b, row T v.cells.toList) :: L) := fun _ _ _ _ a w hF hO =>
  leads_value (v := ptr w.heap.size 0) (w' := w.alloc (.cells v.cells T)) (by simp only [execOp, hF.ev hx]; simp [Instr.box, newVar, newRow]) ⟨_, ⟨_, rfl, rfl⟩, hO.alloc _⟩
theorem d_alloc {z : Value} (hz : zeroB P T z) : Do P n E L (.alloc T) ty (fun u L' => ∃ b, u = ptr b 0 ∧ L' = (b, row T z.cells.toList) :: L) := fun _ _ _ _ a w _ hO =>
  leads_value (v := ptr w.heap.size 0) (w' := w.alloc (.cells z.cells T)) (by simp only [execOp]; simp [Instr.alloc, run_zeroValue hz, newVar, newRow]) ⟨_, ⟨_, rfl, rfl⟩, hO.alloc _⟩

/-! addresses -/
def posB (P : Program) (T : TypeId) : Bool := match P.info? T with | some i => i.size != 0 | none => false
theorem run_fieldAt {w : World} {b off k o : Nat} {fs : Array Field} {f : Field} (hu : P.underlying T = some (.struct fs)) (hf : fs[k]? = some f) (ho : f.offset = o) (hz : posB P f.type = true) : (Instr.fieldAt T (ptr b off) k).run P w = .ok (ptr b (off + o)) w := by
  subst ho
  unfold posB at hz
  cases hi : P.info? f.type with
  | none => simp [hi] at hz
  | some i =>
    have hne : i.size ≠ 0 := by simpa [hi] using hz
    simp [Instr.fieldAt, run_underlying hu, hf, Instr.sureAddr, fieldPlace, sizeOf, typeInfo, hi, hne, addr_add]
theorem y_fieldAddr (o : Nat) {b off k : Nat} {fs : Array Field} {f : Field} (hu : P.underlying T = some (.struct fs)) (hf : fs[k]? = some f) (ho : f.offset = o) (hz : posB P f.type = true) (hx : ev E x = some (ptr b off)) : Pu P n E (.fieldAddr T x k) ty (ptr b (off + o)) := fun _ _ _ _ a hF w => by
  simp only [execOp, hF.ev hx]; simp [run_fieldAt hu hf ho hz]
theorem y_fieldAddr0 (o : Nat) {b k : Nat} {fs : Array Field} {f : Field} (hu : P.underlying T = some (.struct fs)) (hf : fs[k]? = some f) (ho : f.offset = o) (hz : posB P f.type = true) (hx : ev E x = some (ptr b 0)) : Pu P n E (.fieldAddr T x k) ty (ptr b o) := fun _ _ _ _ a hF w => by
  simp only [execOp, hF.ev hx]; simp [run_fieldAt hu hf ho hz]
theorem y_field (o : Nat) {k : Nat} {cs : List Value} {v : Value} {fs : Array Field} {f : Field} (hu : P.underlying T = some (.struct fs)) (hf : fs[k]? = some f) (ho : f.offset = o) (hs : scal P f.type = true) (hx : ev E x = some (.agg ⟨cs⟩)) (hv : nth cs o = some v) : Pu P n E (.field T x k) ty v := fun _ _ _ _ a hF w => by
  subst ho
  rw [nth_eq] at hv
  simp only [execOp, hF.ev hx]
  simp [Instr.field, run_underlying hu, hf, asAgg, part, run_isAgg_no hs, hv]
theorem run_indexAt {w : World} {e : TypeId} {k : IntKind} {j : Int} {b off len cap es : Nat} (hu : P.underlying T = some (.slice e)) (hz : szB P e es = true) (hb : 0 ≤ j ∧ j < len) : (Instr.indexAt T (sl b off len cap) (.int k j)).run P w = .ok (ptr b (off + j.toNat * es)) w := by
  simp [Instr.indexAt, asIntOf, run_underlying hu, hb, run_sizeOf hz, addr_add]
theorem y_ix (es : Nat) {e : TypeId} {k : IntKind} {j : Int} {b off len cap : Nat} (hu : P.underlying T = some (.slice e)) (hz : szB P e es = true) (hx : ev E x = some (sl b off len cap)) (hy : ev E y = some (.int k j)) (hb : 0 ≤ j ∧ j < len) : Pu P n E (.indexAddr T x y) ty (ptr b (off + j.toNat * es)) := fun _ _ _ _ a hF w => by
  simp only [execOp, hF.ev hx, hF.ev hy]; simp [run_indexAt hu hz hb]
theorem y_ix1 {e : TypeId} {k : IntKind} {j : Int} {b len cap : Nat} (hu : P.underlying T = some (.slice e)) (hz : szB P e 1 = true) (hx : ev E x = some (sl b 0 len cap)) (hy : ev E y = some (.int k j)) (hb : 0 ≤ j ∧ j < len) : Pu P n E (.indexAddr T x y) ty (ptr b j.toNat) := fun _ _ _ _ a hF w => by
  simp only [execOp, hF.ev hx, hF.ev hy]; simp [run_indexAt hu hz hb]
theorem run_indexArr {w : World} {e : TypeId} {k : IntKind} {j : Int} {b off len es : Nat} (hu : P.underlying T = some (.array len e)) (hz : szB P e es = true) (hb : 0 ≤ j ∧ j < len) : (Instr.indexAt T (ptr b off) (.int k j)).run P w = .ok (ptr b (off + j.toNat * es)) w := by
  simp [Instr.indexAt, asIntOf, run_underlying hu, Instr.sureAddr, hb, run_sizeOf hz, addr_add]
theorem y_ixA (es : Nat) {e : TypeId} {k : IntKind} {j : Int} {b off len : Nat} (hu : P.underlying T = some (.array len e)) (hz : szB P e es = true) (hx : ev E x = some (ptr b off)) (hy : ev E y = some (.int k j)) (hb : 0 ≤ j ∧ j < len) : Pu P n E (.indexAddr T x y) ty (ptr b (off + j.toNat * es)) := fun _ _ _ _ a hF w => by
  simp only [execOp, hF.ev hx, hF.ev hy]; simp [run_indexArr hu hz hb]

/-- A text's byte, as a number. -/
def at8 (l : List UInt8) (i : Int) : Int := ((l[i.toNat]?.getD 0).toNat : Int)
theorem at8_lo (l : List UInt8) (i : Int) : 0 ≤ at8 l i := by unfold at8; omega
theorem at8_hi (l : List UInt8) (i : Int) : at8 l i < 256 := by unfold at8; have := UInt8.toNat_lt (l[i.toNat]?.getD 0); omega
theorem y_ixS {k : IntKind} {j : Int} {l : List UInt8} (hu : P.underlying T = some .string) (hx : ev E x = some (S l)) (hy : ev E y = some (.int k j)) (hb : 0 ≤ j ∧ j < l.length) : Pu P n E (.index T x y) ty (.int .u8 (at8 l j)) := fun _ _ _ _ a hF w => by
  have hlt : j.toNat < l.length := by omega
  have hget : (⟨⟨l⟩⟩ : ByteArray)[j.toNat]? = some l[j.toNat] := by
    rw [getElem?_pos (⟨⟨l⟩⟩ : ByteArray) j.toNat (by exact hlt)]; rfl
  simp only [execOp, hF.ev hx, hF.ev hy]
  simp [Instr.index, asIntOf, run_underlying hu, hb.1, hget, at8, hlt]
theorem y_lenS {ts : TypeId} {l : List UInt8} (hu : P.underlying ts = some .string) (hx : ev E x = some (S l)) : Pu P n E (.call ⟨.builtin .len, #[x], #[ts]⟩) ty (int l.length) := fun _ _ _ _ a hF w => by
  simp only [execOp, resolve, List.map_toArray, List.map_cons, List.map_nil, hF.ev hx]
  simp [invoke, builtin, Builtin.len_, run_underlying hu, goInt]; rfl
theorem y_lenL {ts e : TypeId} {p : Option Addr} {len cap : Nat} (hu : P.underlying ts = some (.slice e)) (hx : ev E x = some (.slice p len cap)) : Pu P n E (.call ⟨.builtin .len, #[x], #[ts]⟩) ty (int len) := fun _ _ _ _ a hF w => by
  simp only [execOp, resolve, List.map_toArray, List.map_cons, List.map_nil, hF.ev hx]
  simp [invoke, builtin, Builtin.len_, run_underlying hu, goInt]
theorem y_lenA {ts e : TypeId} {v : Value} {len : Nat} (hu : P.underlying ts = some (.array len e)) (hx : ev E x = some v) : Pu P n E (.call ⟨.builtin .len, #[x], #[ts]⟩) ty (int len) := fun _ _ _ _ a hF w => by
  simp only [execOp, resolve, List.map_toArray, List.map_cons, List.map_nil, hF.ev hx]
  cases v <;> simp [invoke, builtin, Builtin.len_, run_underlying hu, goInt]
end
end Go.SL
