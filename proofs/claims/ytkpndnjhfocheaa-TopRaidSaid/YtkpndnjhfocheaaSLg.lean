/- Structs by value, rows that are made, append, copy, clear, bytes as a text, in the frame logic. -/
import Derived.Test.YtkpndnjhfocheaaSLf
import Derived.Great.BuildSlice
namespace Go.SL
variable {X : Inhabited Outside}
section
variable {P : Program} {n : Nat} {E : Env} {L : Hp} {ty T T' : TypeId} {x y : Operand}

def evp (E : Env) : List (Nat × Operand) → Option (List (Nat × Value))
  | [] => some []
  | (i, x) :: r => match ev E x with
    | some v => match evp E r with
      | some vs => some ((i, v) :: vs)
      | none => none
    | none => none
theorem Fr.evp {a : Act} (h : Fr n a E) : ∀ {xs : List (Nat × Operand)} {vs : List (Nat × Value)}, evp E xs = some vs → xs.map (fun (i, x) => (i, a.eval x)) = vs
  | [], vs, hx => by simp [SL.evp] at hx; simp [hx]
  | (i, x) :: r, vs, hx => by
    simp only [SL.evp] at hx
    cases hv : SL.ev E x with
    | none => simp [hv] at hx
    | some v =>
      cases hr : SL.evp E r with
      | none => simp [hv, hr] at hx
      | some us =>
        simp [hv, hr] at hx
        subst hx
        simp [h.ev hv]
        simpa using h.evp hr

theorem y_build (vs : List Value) {ps : List (Nat × Operand)} {pv : List (Nat × Value)} (hp : evp E ps = some pv) (hb : P.built T pv = some ⟨vs⟩) : Pu P n E (.build T ps.toArray) ty (.agg ⟨vs⟩) := fun _ _ _ _ a hF w => by
  have h := run_build (P := P) w T pv.toArray ⟨vs⟩ (by simpa using hb)
  simp only [execOp, List.map_toArray]
  have e : ps.map (fun (i, x) => (i, a.eval x)) = pv := hF.evp hp
  simp only [e]
  simp [h]

/-- The cells of a literal slice. -/
def builtS (P : Program) (e : TypeId) (len : Nat) (pv : List (Nat × Value)) : Option (Array Value) :=
  match P.info? e with
  | some ie => match ie.zero with
    | some z => if len * ie.size > 2 ^ 24 ∨ len * ie.size = 0 then none else Instr.fill (fun i => some (i * ie.size, ie.size)) ((Array.range (len * ie.size)).map (z.cells[· % z.cells.size]!)) pv
    | none => none
  | none => none
theorem run_builtS {w : World} {e : TypeId} {len : Nat} {pv : List (Nat × Value)} {vs : Array Value} (hu : P.underlying T = some (.slice e)) (hb : builtS P e len pv = some vs) : (Instr.buildSlice T len pv.toArray).run P w = .ok (sl w.heap.size 0 len len) (w.alloc (.cells vs e)) := by
  unfold builtS at hb
  cases hi : P.info? e with
  | none => simp [hi] at hb
  | some ie =>
    cases hz : ie.zero with
    | none => simp [hi, hz] at hb
    | some z =>
      simp only [hi, hz] at hb
      split at hb
      · cases hb
      · rename_i hn
        exact run_buildSlice w T e len pv.toArray vs ie z hu hi hz (fun h => hn (.inl h)) (fun h => hn (.inr h)) (by simpa using hb)
theorem d_buildSlice (vs : List Value) {e : TypeId} {len : Nat} {ps : List (Nat × Operand)} {pv : List (Nat × Value)} (hu : P.underlying T = some (.slice e)) (hp : evp E ps = some pv) (hb : builtS P e len pv = some ⟨vs⟩) : Do P n E L (.buildSlice T len ps.toArray) ty (fun u L' => ∃ b, u = sl b 0 len len ∧ L' = (b, row e vs) :: L) := fun _ _ _ _ a w hF hO =>
  leads_value (v := sl w.heap.size 0 len len) (w' := w.alloc (.cells ⟨vs⟩ e)) (by
    simp only [execOp, List.map_toArray]
    have e : ps.map (fun (i, x) => (i, a.eval x)) = pv := hF.evp hp
    simp only [e]
    simp [run_builtS hu hb]) ⟨_, ⟨_, rfl, rfl⟩, hO.alloc _⟩

theorem hw_buildSlice {K : Env → Ghs → Prop} {ops rest : List Oper} {pl : List PE} {G : Ghs} {d i : Nat} {pos : String} {aft : Array Edge} (vs : List Value) {e : TypeId} {len : Nat} {ps : List (Nat × Operand)} {pv : List (Nat × Value)} (hu : P.underlying T = some (.slice e)) (hp : evp E ps = some pv) (hb : builtS P e len pv = some ⟨vs⟩)
    (hk : ∀ g, HW P ops n L K rest pl ((d, g) :: E) ((i, g, New L (row e vs) (sl · 0 len len)) :: G) (i + 1)) :
    HW P ops n L K (⟨some d, .buildSlice T len ps.toArray, ty, pos, aft, none⟩ :: rest) (.gh (New L (row e vs) (sl · 0 len len)) :: pl) E G i :=
  hw_new (fun a w hF _ => by
    simp only [execOp, List.map_toArray]
    have e : ps.map (fun (i, x) => (i, a.eval x)) = pv := hF.evp hp
    simp only [e]
    simp [run_builtS hu hb]) hk
theorem hw_endG1 {Q : Exit → Act → World → Prop} {ops l : List Oper} {k i j : Nat} {g : Value} {o : Obj} {mk : Nat → Value} {o1 : Oper} (ht : ops.drop k = [o1]) (h : ∀ b, g = mk b → WL P ops (NQ Q) n [o1] E ((b, o) :: L)) : HW P ops n L (KD P ops n k L Q) l [] E [(j, g, New L o mk)] i := hw_endG _ ht h
theorem hw_endG2 {Q : Exit → Act → World → Prop} {ops l : List Oper} {k i j : Nat} {g : Value} {o : Obj} {mk : Nat → Value} {o1 o2 : Oper} (ht : ops.drop k = [o1, o2]) (h : ∀ b, g = mk b → WL P ops (NQ Q) n [o1, o2] E ((b, o) :: L)) : HW P ops n L (KD P ops n k L Q) l [] E [(j, g, New L o mk)] i := hw_endG _ ht h
theorem hw_endG3 {Q : Exit → Act → World → Prop} {ops l : List Oper} {k i j : Nat} {g : Value} {o : Obj} {mk : Nat → Value} {o1 o2 o3 : Oper} (ht : ops.drop k = [o1, o2, o3]) (h : ∀ b, g = mk b → WL P ops (NQ Q) n [o1, o2, o3] E ((b, o) :: L)) : HW P ops n L (KD P ops n k L Q) l [] E [(j, g, New L o mk)] i := hw_endG _ ht h

/-! bytes as a text -/
def B8 (l : List UInt8) : List Value := l.map fun c => .int .u8 (c.toNat : Int)
theorem B8_length (l : List UInt8) : (B8 l).length = l.length := by simp [B8]
theorem B8_append (l r : List UInt8) : B8 (l ++ r) = B8 l ++ B8 r := by simp [B8]
theorem B8_take (l : List UInt8) (k : Nat) : B8 (l.take k) = (B8 l).take k := by simp [B8]
theorem B8_drop (l : List UInt8) (k : Nat) : B8 (l.drop k) = (B8 l).drop k := by simp [B8]
theorem allOne_B8 (l : List UInt8) : allOne (B8 l) = true := by simp [allOne, B8, Value.oneCell']

theorem run_toStr {w : World} {src dst e : TypeId} {b off len cap i : Nat} {cs : List Value} {l : List UInt8} {fz : Nat × Nat} (hs : P.underlying src = some (.slice e)) (he : P.underlying e = some (.int .u8)) (hd : P.underlying dst = some .string)
    (hO : Own w L) (hL : nth L i = some (b, .cells ⟨cs⟩ T' fz)) (hc : (cs.drop off).take len = B8 l) (hl : l.length = len) : (convert src dst (sl b off len cap)).run P w = .ok (S l) w := by
  have hcells : (loadCells ⟨b, off, none⟩ len).run P w = .ok ((l.map fun c => (c.toNat : Int)).map (Value.int .u8)).toArray w := by
    have := run_loadCells_list (P := P) w ⟨b, off, none⟩ (B8 l) (fun j v hv => by
      rw [addr_add]
      refine hO.cell hL ?_
      have hj : j < (B8 l).length := (List.getElem?_eq_some_iff.1 hv).1
      rw [B8_length] at hj
      rw [nth_eq, ← hv, ← hc, List.getElem?_take, if_pos (by omega), List.getElem?_drop])
    rw [B8_length, hl] at this
    simpa [B8, Function.comp_def] using this
  have h1 := run_bytesToString w ⟨b, off, none⟩ len cap _ hcells
  rw [run_convert_bytes_string w src dst e _ len cap hs he hd, h1]
  congr 2
  have : ∀ (l : List UInt8) (acc : List UInt8), (l.map fun c => (c.toNat : Int)).foldl (fun r n => r.push (UInt8.ofNat n.toNat)) (⟨⟨acc⟩⟩ : ByteArray) = ⟨⟨acc ++ l⟩⟩ := by
    intro l
    induction l with
    | nil => intro acc; simp
    | cons c r ih =>
      intro acc
      simp only [List.map_cons, List.foldl_cons]
      have hp : (⟨⟨acc⟩⟩ : ByteArray).push (UInt8.ofNat ((c.toNat : Int)).toNat) = ⟨⟨acc ++ [c]⟩⟩ := by
        simp [ByteArray.push]
      rw [hp, ih]
      simp
  have h0 : ByteArray.empty = ⟨⟨[]⟩⟩ := rfl
  have := this l []
  rw [h0]
  simpa using this
theorem y_toStr (i : Nat) {src dst e : TypeId} {b off len cap : Nat} {cs : List Value} {fz : Nat × Nat} (l : List UInt8) (hs : P.underlying src = some (.slice e)) (he : P.underlying e = some (.int .u8)) (hd : P.underlying dst = some .string)
    (hx : ev E x = some (sl b off len cap)) (hL : nth L i = some (b, .cells ⟨cs⟩ T' fz)) (hc : (cs.drop off).take len = B8 l) (hl : l.length = len) : Rd P n E L (.convert src dst x) ty (S l) := fun _ _ _ _ a hF w hO => by
  simp only [execOp, hF.ev hx]; simp [run_toStr hs he hd hO hL hc hl]
theorem y_toStrNil {src dst e : TypeId} {len cap : Nat} (hs : P.underlying src = some (.slice e)) (he : P.underlying e = some (.int .u8)) (hd : P.underlying dst = some .string)
    (hx : ev E x = some (.slice none len cap)) : Pu P n E (.convert src dst x) ty (S []) := fun _ _ _ _ a hF w => by
  simp only [execOp, hF.ev hx]; simp [run_convert_bytes_nil w src e hs he len cap dst hd]; rfl

/-! a slice of the code's own: nil, or a row from its beginning on, with spare room behind -/
inductive SlF (T : TypeId) (sz : Nat) : Value → Nat → List Value → Hp → Prop
  | nil : SlF T sz (.slice none 0 0) 0 [] []
  | own (b n cap : Nat) (xs sp : List Value) (hx : xs.length = n * sz) (hc : n ≤ cap) (hs : xs.length + sp.length = cap * sz) : SlF T sz (sl b 0 n cap) n xs [(b, row T (xs ++ sp))]

theorem run_appendF {w : World} {e : TypeId} {L0 fr : Hp} {v : Value} {k m c sz bytes bs off j : Nat} {xs ys news : List Value} {Ts : TypeId} {fz : Nat × Nat} {z : Value}
    (hu : P.underlying T = some (.slice e)) (hi : (P.info? e).map (fun i => (i.size, i.bytes, i.zero)) = some (sz, bytes, some z)) (hz : z.cells.size = sz)
    (hS : SlF e sz v k xs fr) (hO : Own w (fr ++ L0)) (hL : nth L0 j = some (bs, .cells ⟨ys⟩ Ts fz)) (hn : (ys.drop off).take (m * sz) = news) (hl : news.length = m * sz) (h1 : allOne news = true) (hb : (k + m) * bytes ≤ 140737488355328) (hb' : k + m ≤ 9223372036854775807) :
    ∃ v' w' fr', (Builtin.append_ #[T, T] ty #[v, sl bs off m c]).run P w = .ok v' w' ∧ SlF e sz v' (k + m) (xs ++ news) fr' ∧ Own w' (fr' ++ L0) := by
  cases hie : P.info? e with
  | none => simp [hie] at hi
  | some i =>
    simp [hie] at hi
    obtain ⟨hsz, hby, hzz⟩ := hi
    subst hsz hby
    have hcells : ∀ q u, news[q]? = some u → w.cell? ((⟨bs, off, none⟩ : Addr).add q) = some u := fun q u hq => by
      rw [addr_add]
      have hLm : (bs, Obj.cells ⟨ys⟩ Ts fz) ∈ fr ++ L0 := List.mem_append_right _ (nth_mem hL)
      have hh := hO.mem _ _ hLm
      have hlt : q < news.length := (List.getElem?_eq_some_iff.1 hq).1
      have hy : ys[off + q]? = some u := by
        rw [← hq, ← hn, List.getElem?_take, if_pos (by omega), List.getElem?_drop]
      simp [World.cell?, hh, hy]
    have hone : ∀ u ∈ news, u.oneCell' = true := by simpa [allOne] using h1
    have hzero : ∀ q, (Builtin.zeroCells z.cells q).size = q * i.size := fun q => by rw [size_zeroCells, hz]
    -- the row that growing makes
    have grown : ∀ (old : Nat) (olds : List Value), olds = xs → xs.length = k * i.size → old < k + m → Own w L0 →
        ∃ fr', SlF e i.size (sl w.heap.size 0 (k + m) (grownCap w (k + m) old e)) (k + m) (xs ++ news) fr' ∧
          Own (w.drew.alloc (.cells (olds.toArray ++ news.toArray ++ Builtin.zeroCells z.cells (grownCap w (k + m) old e - (k + m))) e)) (fr' ++ L0) := by
      intro old olds ho hxl hlt hOL
      subst ho
      have hge := grownCap_ge w (k + m) old e
      have hobj : Obj.cells (olds.toArray ++ news.toArray ++ Builtin.zeroCells z.cells (grownCap w (k + m) old e - (k + m))) e = row e (olds ++ news ++ (Builtin.zeroCells z.cells (grownCap w (k + m) old e - (k + m))).toList) := by
        show Obj.cells _ e (0, 0) = Obj.cells _ e (0, 0)
        congr 1
        apply Array.ext'
        simp
      refine ⟨_, .own w.heap.size (k + m) (grownCap w (k + m) old e) (olds ++ news) (Builtin.zeroCells z.cells (grownCap w (k + m) old e - (k + m))).toList ?_ hge ?_, ?_⟩
      · rw [List.length_append, hxl, hl, Nat.add_mul]
      · rw [List.length_append, hxl, hl, ← Nat.add_mul, Array.length_toList, hzero, ← Nat.add_mul]
        congr 1; omega
      · rw [hobj]
        exact (Own.drew hOL).alloc _
    cases hS with
    | nil =>
      by_cases hm : m = 0
      · subst hm
        have hnil : news = [] := List.eq_nil_of_length_eq_zero (by simpa using hl)
        subst hnil
        refine ⟨.slice none 0 0, w, [], ?_, .nil, hO⟩
        simp [Builtin.append_, run_underlying hu, sizeOf, typeInfo, hie, Builtin.lenOf, Builtin.firstCells, loadCells, loadCellsFrom]
      · have hr := run_append_nil (P := P) w T ty e i z hu hie hzz ⟨bs, off, none⟩ m c news hl hcells (by omega) (by omega) (by rw [Nat.zero_add] at hb; omega)
        obtain ⟨fr', g1, g2⟩ := grown 0 [] rfl (by simp) (by omega) hO
        simp only [Nat.zero_add] at g1 g2 ⊢
        refine ⟨_, _, fr', hr, g1, ?_⟩
        simpa using g2
    | own b _ cap xs sp hx hc hs =>
      have hg := hO.mem b _ List.mem_cons_self
      by_cases hroom : k + m ≤ cap
      · have hr := run_append_room (P := P) w T ty e i hu hie b k cap ⟨xs ++ sp⟩ hg ⟨bs, off, none⟩ m c news hl hcells hone hroom (by
          simp only [List.size_toArray, List.length_append, hs, hl]
          rw [← Nat.add_mul]; exact Nat.mul_le_mul_right _ hroom)
        have hcat : (xs ++ sp).take (k * i.size) ++ news ++ (xs ++ sp).drop (k * i.size + news.length) = xs ++ news ++ sp.drop news.length := by
          rw [← hx, List.take_left, List.drop_append]
          simp
        refine ⟨_, _, [(b, row e (xs ++ news ++ sp.drop news.length))], hr, .own b (k + m) cap (xs ++ news) (sp.drop news.length) (by rw [List.length_append, hx, hl, Nat.add_mul]) hroom ?_, ?_⟩
        · have hle : news.length ≤ sp.length := by
            have h1 : (k + m) * i.size ≤ cap * i.size := Nat.mul_le_mul_right _ hroom
            rw [Nat.add_mul] at h1
            omega
          rw [List.length_append, List.length_drop]
          omega
        · have := hO.setRow (i := 0) rfl (xs ++ news ++ sp.drop news.length)
          rw [hcat]
          exact this
      · have hr := run_append_grow (P := P) w T ty e i z hu hie hzz ⟨b, 0, none⟩ k cap xs hx (fun q u hq => by
          rw [addr_add]
          have hlt : q < xs.length := (List.getElem?_eq_some_iff.1 hq).1
          have : (xs ++ sp)[q]? = some u := by rw [List.getElem?_append_left hlt]; exact hq
          simp [World.cell?, hg, this]) ⟨bs, off, none⟩ m c news hl hcells (by omega) (by omega) (growslice_fits (by omega) hb)
        obtain ⟨fr', g1, g2⟩ := grown cap xs rfl hx (by omega) (by have := hO; exact Own.drop this)
        exact ⟨_, _, fr', hr, g1, g2⟩

theorem d_append {e : TypeId} {L0 fr : Hp} {v : Value} {k m c sz bytes bs off : Nat} (j : Nat) {xs ys news : List Value} {Ts : TypeId} {fz : Nat × Nat} (z : Value)
    (hu : P.underlying T = some (.slice e)) (hi : (P.info? e).map (fun i => (i.size, i.bytes, i.zero)) = some (sz, bytes, some z)) (hz : z.cells.size = sz)
    (hx : ev E x = some v) (hy : ev E y = some (sl bs off m c)) (hS : SlF e sz v k xs fr) (hL : L = fr ++ L0) (hj : nth L0 j = some (bs, .cells ⟨ys⟩ Ts fz)) (hn : (ys.drop off).take (m * sz) = news) (hl : news.length = m * sz) (h1 : allOne news = true) (hb : (k + m) * bytes ≤ 140737488355328) (hb' : k + m ≤ 9223372036854775807) :
    Do P n E L (.call ⟨.builtin .append, #[x, y], #[T, T]⟩) ty (fun v' L' => ∃ fr', SlF e sz v' (k + m) (xs ++ news) fr' ∧ L' = fr' ++ L0) := fun dst pos aft g a w hF hO => by
  subst hL
  obtain ⟨v', w', fr', h1, h2, h3⟩ := run_appendF (ty := ty) (P := P) (c := c) hu hi hz hS hO hj hn hl h1 hb hb'
  exact leads_value (v := v') (w' := w') (by
    simp only [execOp, resolve, List.map_toArray, List.map_cons, List.map_nil, hF.ev hx, hF.ev hy]
    simp [invoke, builtin, h1]) ⟨_, ⟨_, h2, rfl⟩, h3⟩

/-! copy, clear -/
theorem d_copy (i j : Nat) {e : TypeId} {b off len cap bs offs m c : Nat} {cs ys : List Value} {Ts : TypeId} {fz : Nat × Nat} {T2 : TypeId}
    (hu : P.underlying T = some (.slice e)) (h1 : szB P e 1 = true) (hx : ev E x = some (sl b off len cap)) (hy : ev E y = some (sl bs offs m c)) (hL : nth L i = some (b, row T' cs)) (hj : nth L j = some (bs, .cells ⟨ys⟩ Ts fz))
    (hfs : offs + m ≤ ys.length) (hfd : off + len ≤ cs.length) (hone : allOne ys = true) :
    Do P n E L (.call ⟨.builtin .copy, #[x, y], #[T, T2]⟩) ty (fun v L' => v = int ((min m len : Nat) : Int) ∧ L' = setAt L i (row T' (cs.take off ++ (ys.drop offs).take (min m len) ++ cs.drop (off + min m len)))) := fun dst pos aft g a w hF hO => by
  have hl : ((ys.drop offs).take (min m len)).length = min m len := by rw [List.length_take, List.length_drop]; omega
  have hr := run_copy_row (P := P) w T T2 ty e b off len cap ⟨bs, offs, none⟩ m c ⟨cs⟩ T' ((ys.drop offs).take (min m len)) hu (by simpa [szB] using h1) (hO.mem b _ (nth_mem hL)) hl
    (fun q v hv => by
      rw [addr_add]
      refine hO.cell hj ?_
      have hq : q < ((ys.drop offs).take (min m len)).length := (List.getElem?_eq_some_iff.1 hv).1
      rw [nth_eq, ← hv, List.getElem?_take, if_pos (by omega), List.getElem?_drop])
    (by simp only [List.size_toArray]; omega) (fun v hv => by
      have : v ∈ ys := List.mem_of_mem_drop (List.mem_of_mem_take hv)
      exact (List.all_eq_true.1 hone) v this)
  rw [hl] at hr
  exact leads_value (v := int ((min m len : Nat) : Int)) (by
    simp only [execOp, resolve, List.map_toArray, List.map_cons, List.map_nil, hF.ev hx, hF.ev hy]
    simp [invoke, builtin, hr, goInt]) ⟨_, ⟨rfl, rfl⟩, hO.setRow hL _⟩
theorem d_clear (i : Nat) {e : TypeId} {b off len cap : Nat} {cs : List Value} {z : Value}
    (hu : P.underlying T = some (.slice e)) (hz : zeroB P e z) (hzc : z.oneCell' = true) (hx : ev E x = some (sl b off len cap)) (hL : nth L i = some (b, row T' cs)) (hfd : off + len ≤ cs.length) :
    Do P n E L (.call ⟨.builtin .clear, #[x], #[T]⟩) ty (fun _ L' => L' = setAt L i (row T' (cs.take off ++ List.replicate len z ++ cs.drop (off + len)))) := fun dst pos aft g a w hF hO => by
  have hvc : z.cells = #[z] := by cases z <;> simp_all [Value.cells, Value.oneCell']
  have hrep : (Builtin.zeroCells #[z] len).toList = List.replicate len z := by
    apply List.ext_getElem?
    intro j
    simp only [Builtin.zeroCells, Array.toList_map, Array.toList_range, List.getElem?_map, List.getElem?_replicate, List.size_toArray, List.length_cons, List.length_nil, Nat.mul_one, Nat.zero_add, Nat.mod_one]
    by_cases hj : j < len
    · simp [hj]
    · simp [hj]
  have hst := run_storeCells_at P b off T' (List.replicate len z) 0 ⟨cs⟩ w (hO.mem b _ (nth_mem hL)) (by simpa using hfd) (by intro v hv; rw [(List.mem_replicate.1 hv).2]; exact hzc)
  simp only [Nat.add_zero, List.length_replicate] at hst
  by_cases h0 : len = 0
  · subst h0
    refine leads_value (v := .tuple #[]) (w' := w) (by
      simp only [execOp, resolve, List.map_toArray, List.map_cons, List.map_nil, hF.ev hx]
      simp [invoke, builtin, Builtin.clear_, run_underlying hu]) ⟨_, rfl, ?_⟩
    have he : cs.take off ++ List.replicate 0 z ++ cs.drop (off + 0) = cs := by simp
    rw [he]
    have := hO.setRow hL cs
    have hself : w.setRow b cs.toArray = w := setRow_self w b ⟨cs⟩ T' (0, 0) (hO.mem b _ (nth_mem hL))
    rw [hself] at this
    exact this
  · exact leads_value (v := .tuple #[]) (by
      simp only [execOp, resolve, List.map_toArray, List.map_cons, List.map_nil, hF.ev hx]
      have h0' : len ≠ 0 := h0
      simp [invoke, builtin, Builtin.clear_, run_underlying hu, run_zeroValue hz, hvc, hrep, hst, h0']) ⟨_, rfl, hO.setRow hL _⟩

/-! the nil slice -/
theorem y_toLnil {e : TypeId} {p : Operand} {j : Int} {k : IntKind} (es : Nat) (hu : P.underlying T = some (.slice e)) (hz : szB P e es = true) (hx : ev E x = some (.slice none 0 0)) (hp : ev E p = some (.int k j)) (h : j = 0) : Pu P n E (.slice T x none (some p) none) ty (.slice none 0 0) := fun _ _ _ _ a hF w => by
  subst h
  simp only [execOp, hF.ev hx, Option.map_some, hF.ev hp]
  simp [Instr.sliceAt, Instr.slice, Instr.sliceBounds, Instr.sliceBound, asIntOf, run_underlying hu, run_sizeOf hz]
theorem y_fromLnil {e : TypeId} {p : Operand} {j : Int} {k : IntKind} (es : Nat) (hu : P.underlying T = some (.slice e)) (hz : szB P e es = true) (hx : ev E x = some (.slice none 0 0)) (hp : ev E p = some (.int k j)) (h : j = 0) : Pu P n E (.slice T x (some p) none none) ty (.slice none 0 0) := fun _ _ _ _ a hF w => by
  subst h
  simp only [execOp, hF.ev hx, Option.map_some, hF.ev hp]
  simp [Instr.sliceAt, Instr.slice, Instr.sliceBounds, Instr.sliceBound, asIntOf, run_underlying hu, run_sizeOf hz]
theorem y_appNil {e : TypeId} (es : Nat) (hu : P.underlying T = some (.slice e)) (hz : szB P e es = true) (hx : ev E x = some (.slice none 0 0)) (hy : ev E y = some (.slice none 0 0)) : Pu P n E (.call ⟨.builtin .append, #[x, y], #[T, T]⟩) ty (.slice none 0 0) := fun _ _ _ _ a hF w => by
  simp only [execOp, resolve, List.map_toArray, List.map_cons, List.map_nil, hF.ev hx, hF.ev hy]
  simp [invoke, builtin, Builtin.append_, run_underlying hu, run_sizeOf hz, Builtin.lenOf, Builtin.firstCells]
end
end Go.SL
