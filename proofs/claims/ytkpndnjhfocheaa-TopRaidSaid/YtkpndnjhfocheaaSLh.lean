/- More laws of slices, in the frame logic. -/
import Derived.Test.YtkpndnjhfocheaaSLg
namespace Go.SL
variable {X : Inhabited Outside}
section
variable {P : Program} {n : Nat} {E : Env} {L : Hp} {ty T T' : TypeId} {x y : Operand}

/-- What has to hold between two parts. -/
def Join [X : Inhabited Outside] {σ : Type} (I : σ → Prop) (F : σ → Env) (H : σ → Hp) (n : Nat) : Act → World → Prop := fun a w => ∃ s, I s ∧ Fr n a (F s) ∧ Own w (H s)
theorem wc_join {Q : Exit → Act → World → Prop} {c d : Code} {σ : Type} (I : σ → Prop) (F : σ → Env) (H : σ → Hp) (hx : WC P (Exit.then (Join I F H n) Q) n c E L) (hy : ∀ s, I s → WC P Q n d (F s) (H s)) : WC P Q n (.seq c d) E L := by
  refine wc_seq fun a w hF hO => Code.wp_mono (fun e a' w' q => ?_) (hx a w hF hO)
  cases e with
  | normal =>
    obtain ⟨s, hI, hF', hO'⟩ := q
    exact hy s hI a' w' hF' hO'
  | _ => exact q
theorem at_join {Q : Exit → Act → World → Prop} {σ : Type} {I : σ → Prop} {F : σ → Env} {H : σ → Hp} (s : σ) (hI : I s) (hE : Sub (F s) E) (hL : H s = L) : AT (Exit.then (Join I F H n) Q) n .normal E L :=
  fun _ _ hF hO => ⟨s, hI, hF.sub hE.lk, hL ▸ hO⟩
theorem Ctr.re {f : FuncId} {vs : List Value} {L L1 : Hp} {R R1 : Value → Hp → Prop} (p : L.Perm L1) (h : Ctr P f vs L1 R1) (q : ∀ v L1', R1 v L1' → ∃ L', R v L' ∧ L1'.Perm L') : Ctr P f vs L R :=
  fun w hO => (h w (hO.perm p)).mono fun _ _ ⟨v, L1', he, hR, hO'⟩ => by
    obtain ⟨L', hR', hp⟩ := q v L1' hR
    exact ⟨v, L', he, hR', hO'.perm hp⟩
theorem Own.dropL {w : World} : ∀ {A L : Hp}, Own w (A ++ L) → Own w L
  | [], _, h => h
  | _ :: A, _, h => Own.dropL (A := A) h.drop
theorem wl_dropL {Q : Exit → Act → World → Prop} {ops l : List Oper} {A : Hp} (h : WL P ops Q n l E L) : WL P ops Q n l E (A ++ L) := fun a w hF hO => h a w hF hO.dropL
theorem at_dropL {Q : Exit → Act → World → Prop} {e : Exit} {A : Hp} (h : AT Q n e E L) : AT Q n e E (A ++ L) := fun a w hF hO => h a w hF hO.dropL

/-! two new rows in a region that draws its order -/
theorem hw_make {K : Env → Ghs → Prop} {ops rest : List Oper} {pl : List PE} {G : Ghs} {d k0 : Nat} {pos : String} {aft : Array Edge} {e : TypeId} {z : Value} {i : Int} {by_ : Nat} (hu : P.underlying T = some (.slice e)) (hz : zeroB P e z) (h1 : szB P e 1 = true) (hzc : z.oneCell' = true) (hb : (P.info? e).map (·.bytes) = some by_) (hx : ev E x = some (int i)) (hy : ev E y = some (int i)) (h : 0 ≤ i ∧ i * by_ ≤ 281474976710656 ∧ i ≤ 9223372036854775807)
    (hk : ∀ g, HW P ops n L K rest pl ((d, g) :: E) ((k0, g, New L (row e (zeros z i.toNat)) (sl · 0 i.toNat i.toNat)) :: G) (k0 + 1)) :
    HW P ops n L K (⟨some d, .makeSlice T x y, ty, pos, aft, none⟩ :: rest) (.gh (New L (row e (zeros z i.toNat)) (sl · 0 i.toNat i.toNat)) :: pl) E G k0 :=
  hw_new (fun _ _ hF _ => x_make hu hz h1 hzc hb hx hy h hF) hk
theorem hw_end2G {Q : Exit → Act → World → Prop} {ops l : List Oper} {k i j1 j2 : Nat} {g1 g2 : Value} {o1 o2 : Obj} {mk1 mk2 : Nat → Value} (tl : List Oper) (ht : ops.drop k = tl) (hne : o1 ≠ o2) (h : ∀ b1 b2, g1 = mk1 b1 → g2 = mk2 b2 → WL P ops (NQ Q) n tl E ((b2, o2) :: (b1, o1) :: L)) :
    HW P ops n L (KD P ops n k L Q) l [] E [(j2, g2, New L o2 mk2), (j1, g1, New L o1 mk1)] i := by
  unfold HW
  intro a w hF hO hG
  obtain ⟨b1, e1, m1, f1⟩ := hG j1 g1 (New L o1 mk1) (by simp)
  obtain ⟨b2, e2, m2, f2⟩ := hG j2 g2 (New L o2 mk2) (by simp)
  rw [ht]
  refine h b1 b2 e1 e2 a w hF ⟨?_, fun c u hm => ?_, hO.same⟩
  · simp only [List.map_cons, List.nodup_cons, List.mem_cons, not_or]
    refine ⟨⟨fun e => hne ?_, f2⟩, f1, hO.nodup⟩
    subst e
    rw [m1] at m2
    exact Option.some.inj m2
  · simp only [List.mem_cons, Prod.mk.injEq] at hm
    rcases hm with ⟨rfl, rfl⟩ | ⟨rfl, rfl⟩ | hm
    · exact m2
    · exact m1
    · exact hO.mem c u hm
theorem hw_end2G4 {Q : Exit → Act → World → Prop} {ops l : List Oper} {k i j1 j2 : Nat} {g1 g2 : Value} {o1 o2 : Obj} {mk1 mk2 : Nat → Value} {p1 p2 p3 p4 : Oper} (ht : ops.drop k = [p1, p2, p3, p4]) (hne : o1 ≠ o2) (h : ∀ b1 b2, g1 = mk1 b1 → g2 = mk2 b2 → WL P ops (NQ Q) n [p1, p2, p3, p4] E ((b2, o2) :: (b1, o1) :: L)) :
    HW P ops n L (KD P ops n k L Q) l [] E [(j2, g2, New L o2 mk2), (j1, g1, New L o1 mk1)] i := hw_end2G _ ht hne h

theorem y_fromSE {l r : List UInt8} {o : Operand} {i : Int} {k : IntKind} (hu : P.underlying T = some .string) (hx : ev E x = some (S l)) (ho : ev E o = some (.int k i)) (h : 0 ≤ i ∧ i ≤ l.length) (e : l.drop i.toNat = r) : Pu P n E (.slice T x (some o) none none) ty (S r) := e ▸ y_fromS hu hx ho h
theorem y_catE {l r z : List UInt8} {T2 : TypeId} (hx : ev E x = some (S l)) (hy : ev E y = some (S r)) (h : (l.length : Int) + r.length ≤ 9223372036854775807) (e : l ++ r = z) : Pu P n E (.binOp .add T x y T2) ty (S z) := e ▸ y_cat hx hy h
theorem wl_some {Q : Exit → Act → World → Prop} {ops rest : List Oper} {d : Nat} {op : Op} {pos : String} {aft : Array Edge} {C : Value → Prop} (h : ∃ v, Pu P n E op ty v ∧ C v) (hd : Nat.blt d n = true) (hk : ∀ v, C v → WL P ops Q n rest ((d, v) :: E) L) :
    WL P ops Q n (⟨some d, op, ty, pos, aft, none⟩ :: rest) E L := by
  obtain ⟨v, h1, h2⟩ := h
  exact wl_pu h1 hd (hk v h2)

/-! bytes that came in -/
def Byt (L : Hp) (v : Value) (l : List UInt8) : Prop :=
  (∃ p cap, v = .slice p 0 cap ∧ l = []) ∨ ∃ b off cap cs T fz, v = sl b off l.length cap ∧ (b, Obj.cells ⟨cs⟩ T fz) ∈ L ∧ (cs.drop off).take l.length = B8 l ∧ l.length ≤ cap
theorem Byt.mono {L L' : Hp} {v : Value} {l : List UInt8} (h : Byt L v l) (hs : ∀ x ∈ L, x ∈ L') : Byt L' v l := by
  rcases h with h | ⟨b, off, cap, cs, T, fz, h1, h2, h3⟩
  · exact .inl h
  · exact .inr ⟨b, off, cap, cs, T, fz, h1, hs _ h2, h3⟩
theorem Byt.form {v : Value} {l : List UInt8} (h : Byt L v l) : ∃ p cap, v = .slice p l.length cap := by
  rcases h with ⟨p, cap, h, rfl⟩ | ⟨b, off, cap, cs, T, fz, h1, h2, h3⟩
  · exact ⟨p, cap, h⟩
  · exact ⟨_, _, h1⟩
theorem y_toStr0 {src dst e : TypeId} {p : Option Addr} {cap : Nat} (hs : P.underlying src = some (.slice e)) (he : P.underlying e = some (.int .u8)) (hd : P.underlying dst = some .string) (hx : ev E x = some (.slice p 0 cap)) : Pu P n E (.convert src dst x) ty (S []) := by
  cases p with
  | none => exact y_toStrNil hs he hd hx
  | some q =>
    intro _ _ _ _ a hF w
    simp only [execOp, hF.ev hx]
    have h1 := run_bytesToString w q 0 cap (P := P) [] (by simp [loadCells, loadCellsFrom])
    have h2 := run_convert_bytes_string w src dst e q 0 cap hs he hd
    simp [h2, h1]; rfl
theorem y_toStrB {src dst e : TypeId} {v : Value} {l : List UInt8} (hs : P.underlying src = some (.slice e)) (he : P.underlying e = some (.int .u8)) (hd : P.underlying dst = some .string) (hB : Byt L v l) (hx : ev E x = some v) : Rd P n E L (.convert src dst x) ty (S l) := by
  rcases hB with ⟨p, cap, rfl, rfl⟩ | ⟨b, off, cap, cs, T, fz, rfl, h2, h3, h4⟩
  · exact (y_toStr0 hs he hd hx).rd
  · obtain ⟨i, hi⟩ := List.getElem?_of_mem h2
    exact y_toStr i l hs he hd hx (by rw [nth_eq]; exact hi) h3 rfl
theorem y_toL0 {e : TypeId} {q : Option Addr} {cap : Nat} {p : Operand} {j : Int} {k : IntKind} (es : Nat) (hu : P.underlying T = some (.slice e)) (hz : szB P e es = true) (hx : ev E x = some (.slice q 0 cap)) (hp : ev E p = some (.int k j)) (h : j = 0) : ∃ q', Pu P n E (.slice T x none (some p) none) ty (.slice q' 0 cap) := by
  subst h
  refine ⟨if cap = 0 then q else q.map (·.add (0 * es)), fun _ _ _ _ a hF w => ?_⟩
  simp only [execOp, hF.ev hx, Option.map_some, hF.ev hp]
  simp [Instr.sliceAt, Instr.slice, Instr.sliceBounds, Instr.sliceBound, asIntOf, run_underlying hu, run_sizeOf hz]
theorem y_clip {e : TypeId} {v : Value} {l : List UInt8} {p : Operand} {k : Nat} (hu : P.underlying T = some (.slice e)) (hz : szB P e 1 = true) (hB : Byt L v l) (hx : ev E x = some v) (hp : ev E p = some (int (min (l.length : Int) k))) :
    ∃ v', Pu P n E (.slice T x none (some p) none) ty v' ∧ Byt L v' (l.take k) := by
  rcases hB with ⟨q, cap, rfl, rfl⟩ | ⟨b, off, cap, cs, T, fz, rfl, h2, h3, h4⟩
  · obtain ⟨q', h⟩ := y_toL0 (P := P) (n := n) (E := E) (ty := ty) 1 hu hz hx hp (by simp; omega)
    exact ⟨_, h, .inl ⟨q', cap, rfl, by simp⟩⟩
  · refine ⟨_, y_toL 1 hu hz hx hp (by omega), .inr ⟨b, off, cap, cs, T, fz, ?_, h2, ?_, by rw [List.length_take]; omega⟩⟩
    · congr 1
      rw [List.length_take]; omega
    · rw [List.length_take, B8_take, ← h3, List.take_take]

/-- xs[lo:hi:max] -/
theorem y_subL3 {e : TypeId} {b off len cap : Nat} {o p q : Operand} {i j m : Int} {k k' k2 : IntKind} (es : Nat) (hu : P.underlying T = some (.slice e)) (hz : szB P e es = true) (hx : ev E x = some (sl b off len cap)) (ho : ev E o = some (.int k i)) (hp : ev E p = some (.int k' j)) (hq : ev E q = some (.int k2 m)) (h : 0 ≤ i ∧ i ≤ j ∧ j ≤ m ∧ m ≤ cap) :
    Pu P n E (.slice T x (some o) (some p) (some q)) ty (sl b (if m.toNat = i.toNat then off else off + i.toNat * es) (j.toNat - i.toNat) (m.toNat - i.toNat)) := fun _ _ _ _ a hF w => by
  obtain ⟨i', rfl⟩ : ∃ i' : Nat, i = i' := ⟨i.toNat, by omega⟩
  obtain ⟨j', rfl⟩ : ∃ j' : Nat, j = j' := ⟨j.toNat, by omega⟩
  obtain ⟨m', rfl⟩ : ∃ m' : Nat, m = m' := ⟨m.toNat, by omega⟩
  have h1 : i' ≤ j' := by omega
  have h2 : j' ≤ m' := by omega
  have h3 : m' ≤ cap := by omega
  simp only [execOp, hF.ev hx, Option.map_some, hF.ev ho, hF.ev hp, hF.ev hq]
  simp [Instr.sliceAt, Instr.slice, Instr.sliceBounds, Instr.sliceBound, asIntOf, run_underlying hu, run_sizeOf hz, addr_add, h1, h2, h3]
  split <;> rfl

/-- To append nothing changes nothing. -/
theorem y_app0 {e : TypeId} {q : Option Addr} {b off k c c' es : Nat} (hu : P.underlying T = some (.slice e)) (hz : szB P e es = true) (hx : ev E x = some (sl b off k c)) (hy : ev E y = some (.slice q 0 c')) (hk : k ≤ c) :
    Pu P n E (.call ⟨.builtin .append, #[x, y], #[T, T]⟩) ty (sl b off k c) := fun _ _ _ _ a hF w => by
  simp only [execOp, resolve, List.map_toArray, List.map_cons, List.map_nil, hF.ev hx, hF.ev hy]
  cases q <;> simp [invoke, builtin, Builtin.append_, run_underlying hu, run_sizeOf hz, Builtin.lenOf, Builtin.firstCells, loadCells, loadCellsFrom, storeCells, hk]

theorem d_clearN (i : Nat) {e : TypeId} {b off len cap es : Nat} {cs : List Value} {z : Value}
    (hu : P.underlying T = some (.slice e)) (hz : zeroB P e z) (hzc : allOne z.cells.toList = true) (hes : z.cells.size = es) (hes0 : es ≠ 0) (hx : ev E x = some (sl b off len cap)) (hL : nth L i = some (b, row T' cs)) (hfd : off + len * es ≤ cs.length) :
    Do P n E L (.call ⟨.builtin .clear, #[x], #[T]⟩) ty (fun _ L' => ∃ cs', cs'.length = cs.length ∧ L' = setAt L i (row T' cs')) := fun dst pos aft g a w hF hO => by
  have hsz : (Builtin.zeroCells z.cells len).toList.length = len * es := by rw [Array.length_toList, size_zeroCells, hes]
  have hall : ∀ v ∈ (Builtin.zeroCells z.cells len).toList, v.oneCell' = true := by
    intro v hv
    simp only [Builtin.zeroCells, Array.toList_map, Array.toList_range, List.mem_map, List.mem_range] at hv
    obtain ⟨j, hj, rfl⟩ := hv
    have hlt : j % z.cells.size < z.cells.size := Nat.mod_lt _ (by omega)
    refine (List.all_eq_true.1 hzc) _ ?_
    rw [getElem!_pos z.cells _ hlt]
    exact Array.getElem_mem_toList hlt
  have hst := run_storeCells_at P b off T' (Builtin.zeroCells z.cells len).toList 0 ⟨cs⟩ w (hO.mem b _ (nth_mem hL)) (by rw [hsz]; simpa using hfd) hall
  simp only [Nat.add_zero, hsz] at hst
  by_cases h0 : len = 0
  · subst h0
    refine leads_value (v := .tuple #[]) (w' := w) (by
      simp only [execOp, resolve, List.map_toArray, List.map_cons, List.map_nil, hF.ev hx]
      simp [invoke, builtin, Builtin.clear_, run_underlying hu]) ⟨_, ⟨cs, rfl, rfl⟩, ?_⟩
    have := hO.setRow hL cs
    have hself : w.setRow b cs.toArray = w := setRow_self w b ⟨cs⟩ T' (0, 0) (hO.mem b _ (nth_mem hL))
    rw [hself] at this
    exact this
  · have hlen : (cs.take off ++ (Builtin.zeroCells z.cells len).toList ++ cs.drop (off + len * es)).length = cs.length := by
      rw [List.length_append, List.length_append, List.length_take, List.length_drop, hsz]
      omega
    have h0' : len ≠ 0 := h0
    exact leads_value (v := .tuple #[]) (w' := w.setRow b (cs.take off ++ (Builtin.zeroCells z.cells len).toList ++ cs.drop (off + len * es)).toArray) (by
      simp only [execOp, resolve, List.map_toArray, List.map_cons, List.map_nil, hF.ev hx]
      simp [invoke, builtin, Builtin.clear_, run_underlying hu, run_zeroValue hz, hst, h0']) ⟨_, ⟨_, hlen, rfl⟩, hO.setRow hL _⟩
end
end Go.SL
