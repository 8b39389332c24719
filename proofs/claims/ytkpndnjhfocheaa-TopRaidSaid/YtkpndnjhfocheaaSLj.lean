/- append of noughts, in the frame logic. -/
import Derived.Test.YtkpndnjhfocheaaSLi
namespace Go.SL
section
variable {X : Inhabited Outside} {P : Program} {n : Nat} {E : Env} {L : Hp} {ty T T' : TypeId} {x y : Operand}

theorem zeroCells1 (z : Value) (m : Nat) : (Builtin.zeroCells #[z] m).toList = List.replicate m z := by
  apply List.ext_getElem?
  intro j
  simp only [Builtin.zeroCells, Array.toList_map, Array.toList_range, List.getElem?_map, List.getElem?_replicate, List.size_toArray, List.length_cons, List.length_nil, Nat.mul_one, Nat.zero_add, Nat.mod_one]
  by_cases hj : j < m
  · simp [hj]
  · simp [hj]
theorem run_appendZ {w : World} {e Tn : TypeId} {L0 : Hp} {b k cap m bytes : Nat} {xs sp : List Value} {z : Value}
    (hu : P.underlying T = some (.slice e)) (htn : P.underlying Tn = some (.int .i64)) (hi : (P.info? e).map (fun i => (i.size, i.bytes, i.zero)) = some (1, bytes, some z)) (hzc : z.oneCell' = true)
    (hx : xs.length = k) (hs : xs.length + sp.length = cap) (hO : Own w ((b, row e (xs ++ sp)) :: L0)) (hm : 1 ≤ m) (hb : (k + m) * bytes ≤ 140737488355328) (hb' : k + m ≤ 9223372036854775807) :
    ∃ v' w' fr', (Builtin.append_ #[T, Tn] ty #[sl b 0 k cap, int (m : Int)]).run P w = .ok v' w' ∧ SlF e 1 v' (k + m) (xs ++ List.replicate m z) fr' ∧ Own w' (fr' ++ L0) := by
  have hvc : z.cells = #[z] := by cases z <;> simp_all [Value.cells, Value.oneCell']
  cases hie : P.info? e with
  | none => simp [hie] at hi
  | some i =>
    simp [hie] at hi
    obtain ⟨hsz, hby, hzz⟩ := hi
    subst hby
    have hw : IntKind.i64.wrap (m : Int) = m := IntWalk.i64_in _ (by omega)
    have hn1 : ¬ ((m : Int) < 0) := by omega
    have hmb : m * i.bytes ≤ (k + m) * i.bytes := Nat.mul_le_mul_right _ (by omega)
    have hn2 : ¬ (281474976710656 < (m : Int) * (i.bytes : Int)) := by
      have : ((m : Int) * (i.bytes : Int)) = ((m * i.bytes : Nat) : Int) := by push_cast; rfl
      omega
    have hm0 : m ≠ 0 := by omega
    have hg := hO.mem b _ List.mem_cons_self
    by_cases hroom : k + m ≤ cap
    · have hst := run_storeCells_at P b k e (List.replicate m z) 0 ⟨xs ++ sp⟩ w hg (by simp; omega) (by intro v hv; rw [(List.mem_replicate.1 hv).2]; exact hzc)
      simp only [Nat.add_zero, List.length_replicate] at hst
      have hcat : (xs ++ sp).take k ++ List.replicate m z ++ (xs ++ sp).drop (k + m) = xs ++ List.replicate m z ++ sp.drop m := by
        rw [← hx, List.take_left, List.drop_append]
        simp
      refine ⟨sl b 0 (k + m) cap, w.setRow b (xs ++ List.replicate m z ++ sp.drop m).toArray, [(b, row e (xs ++ List.replicate m z ++ sp.drop m))], ?_, .own b (k + m) cap (xs ++ List.replicate m z) (sp.drop m) (by simp; omega) hroom (by simp; omega), ?_⟩
      · rw [← hcat]
        simp [Builtin.append_, run_underlying hu, run_underlying htn, asInt, asIntOf, hw, hn1, hn2, sizeOf, typeInfo, hie, hsz, hroom, hm0, zeroValue, hzz, hvc, zeroCells1, addr_add, hst]
      · exact hO.setRow (i := 0) rfl _
    · have hn : ¬ (k + m ≤ cap) := hroom
      have hfit : Builtin.nextslicecap (k + m) cap * i.bytes ≤ 281474976710656 := growslice_fits (by omega) hb
      have h63' : ¬ (9223372036854775807 < ((k : Int) + (m : Int))) := by omega
      have h48' : ¬ (281474976710656 < Builtin.nextslicecap (k + m) cap * i.bytes) := by omega
      have hfo := run_firstCells_some (P := P) w.drew 1 k ⟨b, 0, none⟩ k cap xs (by omega) (fun q u hq => by
        rw [addr_add]
        have hlt : q < xs.length := (List.getElem?_eq_some_iff.1 hq).1
        have : (xs ++ sp)[q]? = some u := by rw [List.getElem?_append_left hlt]; exact hq
        have hg' : w.drew.heap[b]? = some (row e (xs ++ sp)) := hg
        simp [World.cell?, hg', this])
      have hge := grownCap_ge w (k + m) cap e
      have hobj : Obj.cells (xs.toArray ++ (List.replicate m z).toArray ++ Builtin.zeroCells #[z] (grownCap w (k + m) cap e - (k + m))) e = row e (xs ++ List.replicate m z ++ List.replicate (grownCap w (k + m) cap e - (k + m)) z) := by
        show Obj.cells _ e (0, 0) = Obj.cells _ e (0, 0)
        congr 1
        apply Array.ext'
        simp [zeroCells1]
      refine ⟨sl w.heap.size 0 (k + m) (grownCap w (k + m) cap e), w.drew.alloc (.cells (xs.toArray ++ (List.replicate m z).toArray ++ Builtin.zeroCells #[z] (grownCap w (k + m) cap e - (k + m))) e), _, ?_, .own w.heap.size (k + m) (grownCap w (k + m) cap e) (xs ++ List.replicate m z) (List.replicate (grownCap w (k + m) cap e - (k + m)) z) (by simp; omega) hge (by simp; omega), ?_⟩
      · simp [Builtin.append_, run_underlying hu, run_underlying htn, asInt, asIntOf, hw, hn1, hn2, sizeOf, typeInfo, zeroValue, hie, hsz, hzz, hvc, hroom, hm0, h63', h48', Question.forced, hfo, newRow, grownCap]
        congr 2
        apply Array.ext'
        simp [zeroCells1]
      · rw [hobj]
        exact (Own.drew (Own.drop hO)).alloc _
theorem d_appendZ {e Tn : TypeId} {L0 : Hp} {b k cap m bytes : Nat} {xs sp : List Value} {z : Value}
    (hu : P.underlying T = some (.slice e)) (htn : P.underlying Tn = some (.int .i64)) (hi : (P.info? e).map (fun i => (i.size, i.bytes, i.zero)) = some (1, bytes, some z)) (hzc : z.oneCell' = true)
    (hx : ev E x = some (sl b 0 k cap)) (hy : ev E y = some (int (m : Int))) (hk : xs.length = k) (hs : xs.length + sp.length = cap) (hL : L = (b, row e (xs ++ sp)) :: L0) (hm : 1 ≤ m) (hb : (k + m) * bytes ≤ 140737488355328) (hb' : k + m ≤ 9223372036854775807) :
    Do P n E L (.call ⟨.builtin .append, #[x, y], #[T, Tn]⟩) ty (fun v' L' => ∃ fr', SlF e 1 v' (k + m) (xs ++ List.replicate m z) fr' ∧ L' = fr' ++ L0) := fun dst pos aft g a w hF hO => by
  subst hL
  obtain ⟨v', w', fr', h1, h2, h3⟩ := run_appendZ (ty := ty) (P := P) hu htn hi hzc hk hs hO hm hb hb'
  exact leads_value (v := v') (w' := w') (by
    simp only [execOp, resolve, List.map_toArray, List.map_cons, List.map_nil, hF.ev hx, hF.ev hy]
    simp [invoke, builtin, h1]) ⟨_, ⟨_, h2, rfl⟩, h3⟩
end
end Go.SL
