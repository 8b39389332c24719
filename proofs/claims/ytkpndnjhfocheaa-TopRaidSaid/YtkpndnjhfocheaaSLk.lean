/- append onto a full row, whatever of it is marked; the mark that a text's bytes get; in the frame logic. -/
import Derived.Test.YtkpndnjhfocheaaSLj
namespace Go.SL
section
variable {X : Inhabited Outside} {P : Program} {n : Nat} {E : Env} {L : Hp} {ty T T' : TypeId} {x y : Operand}

/-- A slice of the code's own, or one that fills its row, the row marked in whatever way. -/
def Sl2 (T : TypeId) (sz : Nat) (v : Value) (k : Nat) (xs : List Value) (fr : Hp) : Prop :=
  SlF T sz v k xs fr ∨ ∃ b fz, v = sl b 0 k k ∧ xs.length = k * sz ∧ fr = [(b, .cells ⟨xs⟩ T fz)]
theorem Sl2.form {T : TypeId} {sz : Nat} {v : Value} {k : Nat} {xs : List Value} {fr : Hp} (h : Sl2 T sz v k xs fr) : ∃ p cap, v = .slice p k cap := by
  rcases h with h | ⟨b, fz, rfl, _, _⟩
  · cases h with
    | nil => exact ⟨_, _, rfl⟩
    | own b _ cap _ _ _ _ _ => exact ⟨_, _, rfl⟩
  · exact ⟨_, _, rfl⟩
theorem run_append2 {w : World} {e : TypeId} {L0 : Hp} {b k m c sz bytes bs off j : Nat} {xs ys news : List Value} {Ts : TypeId} {fz fzb : Nat × Nat} {z : Value}
    (hu : P.underlying T = some (.slice e)) (hi : (P.info? e).map (fun i => (i.size, i.bytes, i.zero)) = some (sz, bytes, some z)) (hz : z.cells.size = sz)
    (hx : xs.length = k * sz) (hO : Own w ((b, .cells ⟨xs⟩ e fzb) :: L0)) (hL : nth L0 j = some (bs, .cells ⟨ys⟩ Ts fz)) (hn : (ys.drop off).take (m * sz) = news) (hl : news.length = m * sz) (hm : 1 ≤ m) (hb : (k + m) * bytes ≤ 140737488355328) (hb' : k + m ≤ 9223372036854775807) :
    ∃ v' w' fr', (Builtin.append_ #[T, T] ty #[sl b 0 k k, sl bs off m c]).run P w = .ok v' w' ∧ SlF e sz v' (k + m) (xs ++ news) fr' ∧ Own w' (fr' ++ L0) := by
  cases hie : P.info? e with
  | none => simp [hie] at hi
  | some i =>
    simp [hie] at hi
    obtain ⟨hsz, hby, hzz⟩ := hi
    subst hsz hby
    have hg := hO.mem b _ List.mem_cons_self
    have hcells : ∀ q u, news[q]? = some u → w.cell? ((⟨bs, off, none⟩ : Addr).add q) = some u := fun q u hq => by
      rw [addr_add]
      have hh := hO.mem _ _ (List.mem_cons_of_mem _ (nth_mem hL))
      have hlt : q < news.length := (List.getElem?_eq_some_iff.1 hq).1
      have hy : ys[off + q]? = some u := by
        rw [← hq, ← hn, List.getElem?_take, if_pos (by omega), List.getElem?_drop]
      simp [World.cell?, hh, hy]
    have hr := run_append_grow (P := P) w T ty e i z hu hie hzz ⟨b, 0, none⟩ k k xs hx (fun q u hq => by
      rw [addr_add]
      have : xs[q]? = some u := hq
      simp [World.cell?, hg, this]) ⟨bs, off, none⟩ m c news hl hcells (by omega) (by omega) (growslice_fits (by omega) hb)
    have hge := grownCap_ge w (k + m) k e
    have hzero : ∀ q, (Builtin.zeroCells z.cells q).size = q * i.size := fun q => by rw [size_zeroCells, hz]
    have hobj : Obj.cells (xs.toArray ++ news.toArray ++ Builtin.zeroCells z.cells (grownCap w (k + m) k e - (k + m))) e = row e (xs ++ news ++ (Builtin.zeroCells z.cells (grownCap w (k + m) k e - (k + m))).toList) := by
      show Obj.cells _ e (0, 0) = Obj.cells _ e (0, 0)
      congr 1
      apply Array.ext'
      simp
    rw [hobj] at hr
    refine ⟨_, _, _, hr, .own w.heap.size (k + m) (grownCap w (k + m) k e) (xs ++ news) (Builtin.zeroCells z.cells (grownCap w (k + m) k e - (k + m))).toList ?_ hge ?_, (Own.drew (Own.drop hO)).alloc _⟩
    · rw [List.length_append, hx, hl, Nat.add_mul]
    · rw [List.length_append, hx, hl, ← Nat.add_mul, Array.length_toList, hzero, ← Nat.add_mul]
      congr 1; omega
theorem d_append2 {e : TypeId} {L0 fr : Hp} {v : Value} {k m c sz bytes bs off : Nat} (j : Nat) {xs ys news : List Value} {Ts : TypeId} {fz : Nat × Nat} (z : Value)
    (hu : P.underlying T = some (.slice e)) (hi : (P.info? e).map (fun i => (i.size, i.bytes, i.zero)) = some (sz, bytes, some z)) (hz : z.cells.size = sz)
    (hx : ev E x = some v) (hy : ev E y = some (sl bs off m c)) (hS : Sl2 e sz v k xs fr) (hL : L = fr ++ L0) (hj : nth L0 j = some (bs, .cells ⟨ys⟩ Ts fz)) (hn : (ys.drop off).take (m * sz) = news) (hl : news.length = m * sz) (h1 : allOne news = true) (hm : 1 ≤ m) (hb : (k + m) * bytes ≤ 140737488355328) (hb' : k + m ≤ 9223372036854775807) :
    Do P n E L (.call ⟨.builtin .append, #[x, y], #[T, T]⟩) ty (fun v' L' => ∃ fr', SlF e sz v' (k + m) (xs ++ news) fr' ∧ L' = fr' ++ L0) := by
  rcases hS with hS | ⟨b, fzb, rfl, hxl, rfl⟩
  · exact d_append j z hu hi hz hx hy hS hL hj hn hl h1 hb hb'
  · intro dst pos aft g a w hF hO
    subst hL
    obtain ⟨v', w', fr', h1, h2, h3⟩ := run_append2 (ty := ty) (P := P) (c := c) hu hi hz hxl hO hj hn hl hm hb hb'
    exact leads_value (v := v') (w' := w') (by
      simp only [execOp, resolve, List.map_toArray, List.map_cons, List.map_nil, hF.ev hx, hF.ev hy]
      simp [invoke, builtin, h1]) ⟨_, ⟨_, h2, rfl⟩, h3⟩
theorem slF_len {T : TypeId} {sz : Nat} {v : Value} {k : Nat} {xs : List Value} {fr : Hp} (h : SlF T sz v k xs fr) : xs.length = k * sz := by
  cases h with
  | nil => simp
  | own _ _ _ _ _ hx _ _ => exact hx
theorem y_toStrF {src dst e : TypeId} {v : Value} {k : Nat} {l : List UInt8} {fr L0 : Hp} (hs : P.underlying src = some (.slice e)) (he : P.underlying e = some (.int .u8)) (hd : P.underlying dst = some .string) (hS : SlF e 1 v k (B8 l) fr) (hL : L = fr ++ L0) (hx : ev E x = some v) : Rd P n E L (.convert src dst x) ty (S l) := by
  generalize hB : B8 l = xs at hS
  cases hS with
  | nil =>
    have h0 : l = [] := by
      have := congrArg List.length hB
      rw [B8_length] at this
      exact List.eq_nil_of_length_eq_zero (by simpa using this)
    subst h0
    exact (y_toStrNil hs he hd hx).rd
  | own b _ cap _ sp hx' hc hs' =>
    have hk : l.length = k := by rw [← B8_length l, hB, hx', Nat.mul_one]
    subst hL
    refine y_toStr 0 l hs he hd hx rfl ?_ hk
    rw [← hB, List.drop_zero, ← hk, ← B8_length l, List.take_left]
/-- A text's bytes as a literal: the row gets a mark behind its end. -/
theorem d_mark (i : Nat) {e : TypeId} {b off len cap : Nat} {cs : List Value} (hu : P.underlying T = some (.slice e)) (he : P.underlying e = some (.int .u8)) (hx : ev E x = some (sl b off len cap)) (hL : nth L i = some (b, row T' cs)) :
    Do P n E L (.convert T T x) ty (fun v L' => v = sl b off len cap ∧ L' = setAt L i (.cells ⟨cs⟩ T' (cs.length, cs.length + 1))) := fun dst pos aft g a w hF hO => by
  have hg := hO.mem b _ (nth_mem hL)
  have hlt : b < w.heap.size := (Array.getElem?_eq_some_iff.1 hg).1
  have hsh : w.shape? b = some (T', cs.length) := by
    unfold World.shape?
    rw [hg]
    rfl
  have hb : (w.freeze ⟨b, cs.length, none⟩ 1).heap[b]? = some (.cells ⟨cs⟩ T' (cs.length, cs.length + 1)) := by
    unfold World.freeze
    rw [if_neg (by decide)]
    simp only [Array.getElem?_modify, if_true, hg, Option.map_some]
    rfl
  have hk : ∀ k, k ≠ b → (w.freeze ⟨b, cs.length, none⟩ 1).heap[k]? = w.heap[k]? := fun k hk => by
    unfold World.freeze
    rw [if_neg (by decide)]
    simp only [Array.getElem?_modify]
    rw [if_neg (fun e => hk e.symm)]
  exact leads_value (v := sl b off len cap) (w' := w.freeze ⟨b, cs.length, none⟩ 1) (by
    simp only [execOp, hF.ev hx]
    simp [convert, run_underlying hu, run_underlying he, markStringish, hsh]) ⟨_, ⟨rfl, rfl⟩, hO.set hL hb hk ⟨rfl, rfl, rfl⟩⟩
end
end Go.SL
