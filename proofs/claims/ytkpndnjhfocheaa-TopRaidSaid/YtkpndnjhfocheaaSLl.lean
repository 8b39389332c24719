/- A text's bytes as a new row; results that lie in a variable; in the frame logic. -/
import Derived.Test.YtkpndnjhfocheaaSLk
import Derived.Laws.IdiomStrings
import Derived.Laws.ResultCell
namespace Go.SL
section
variable {X : Inhabited Outside} {P : Program} {n : Nat} {E : Env} {L : Hp} {ty T T' : TypeId} {x y : Operand}

theorem d_bytes {src dst e : TypeId} {l : List UInt8} (hs : P.underlying src = some .string) (hd : P.underlying dst = some (.slice e)) (he : P.underlying e = some (.int .u8)) (hx : ev E x = some (S l)) :
    Do P n E L (.convert src dst x) ty (fun v L' => ∃ b cap sp, v = sl b 0 l.length cap ∧ l.length + sp.length = cap ∧ L' = (b, .cells ⟨B8 l ++ sp⟩ e (cap, cap + 1)) :: L) := fun d pos aft g a w hF hO => by
  have hr := run_bytes_of_string (P := P) w src dst e ⟨⟨l⟩⟩ hs hd he
  have hsz : ByteArray.size ⟨⟨l⟩⟩ = l.length := rfl
  rw [hsz] at hr
  have hge := grownCap_ge w l.length 0 e
  have hrow : bytesRow ⟨⟨l⟩⟩ (grownCap w l.length 0 e) = ⟨B8 l ++ List.replicate (grownCap w l.length 0 e - l.length) (.int .u8 0)⟩ := by
    apply Array.ext'
    simp [bytesRow, B8, hsz]
  have hlen : (B8 l ++ List.replicate (grownCap w l.length 0 e - l.length) (Value.int .u8 0)).length = grownCap w l.length 0 e := by
    rw [List.length_append, B8_length, List.length_replicate]; omega
  have hsize : (bytesRow ⟨⟨l⟩⟩ (grownCap w l.length 0 e)).size = grownCap w l.length 0 e := by rw [hrow]; exact hlen
  rw [hsize, hrow] at hr
  exact leads_value (v := sl w.heap.size 0 l.length (grownCap w l.length 0 e)) (by
    simp only [execOp, hF.ev hx]
    simp [hr]) ⟨_, ⟨w.heap.size, grownCap w l.length 0 e, List.replicate (grownCap w l.length 0 e - l.length) (.int .u8 0), rfl, by rw [List.length_replicate]; omega, rfl⟩, (Own.drew hO).alloc _⟩

theorem run_loadVarAgg {w : World} {b off k i : Nat} {cs vs : List Value} {fz : Nat × Nat} (hO : Own w L) (hL : nth L i = some (b, .cells ⟨cs⟩ T' fz)) (hc : (cs.drop off).take k = vs) (hl : vs.length = k) (hs : aggB P T = true) (hz : szB P T k = true) : (loadVar T ⟨b, off, none⟩).run P w = .ok (.agg ⟨vs⟩) w := by
  subst hl
  have hcells : ∀ j v, vs[j]? = some v → w.cell? ((⟨b, off, none⟩ : Addr).add j) = some v := fun j v hv => by
    rw [addr_add]
    refine hO.cell hL ?_
    have hj : j < vs.length := (List.getElem?_eq_some_iff.1 hv).1
    rw [nth_eq, ← hv, ← hc, List.getElem?_take, if_pos hj, List.getElem?_drop]
  have h := run_loadCells_list (P := P) w ⟨b, off, none⟩ vs hcells
  simp [loadVar, run_isAgg_yes hs, run_sizeOf hz, h]
section rets
variable {fn : Func} {R : Value → Hp → Prop} {p u s : Nat} {v z : Value} {b off k : Nat} {cs vs : List Value} {fz : Nat × Nat} {L2 : Hp}
/-- Results of which the first lies in a variable. -/
theorem at_retC1 (i : Nat) (hr : fn.results = #[.cell p T, .tmp u]) (hp : lk E p = some (ptr b off)) (hu : lk E u = some v) (hL : nth L i = some (b, .cells ⟨cs⟩ T' fz)) (hc : (cs.drop off).take k = vs) (hl : vs.length = k) (hs : aggB P T = true) (hz : szB P T k = true) (hw : ∀ w, Own w L → Own w L2) (hR : R (.tuple #[.agg ⟨vs⟩, v]) L2) : AT (bodyPost P fn (Post R)) n .ret E L :=
  fun a w hF hO => bodyPost_ret (v := .tuple #[.agg ⟨vs⟩, v]) (by
    have h := run_loadVarAgg (P := P) (T := T) hO hL hc hl hs hz
    rw [results_cell_tmp hr]
    simp [hF.slot p _ hp, hF.slot u _ hu, asAddr, h, Result.andThen]) hF.defers ⟨_, L2, rfl, hR, hw _ hO⟩
theorem at_retC2 (i : Nat) (hr : fn.results = #[.cell p T, .tmp u, .tmp s]) (hp : lk E p = some (ptr b off)) (hu : lk E u = some v) (hv : lk E s = some z) (hL : nth L i = some (b, .cells ⟨cs⟩ T' fz)) (hc : (cs.drop off).take k = vs) (hl : vs.length = k) (hs : aggB P T = true) (hz : szB P T k = true) (hw : ∀ w, Own w L → Own w L2) (hR : R (.tuple #[.agg ⟨vs⟩, v, z]) L2) : AT (bodyPost P fn (Post R)) n .ret E L :=
  fun a w hF hO => bodyPost_ret (v := .tuple #[.agg ⟨vs⟩, v, z]) (by
    have h := run_loadVarAgg (P := P) (T := T) hO hL hc hl hs hz
    simp [results, hr, hF.slot p _ hp, hF.slot u _ hu, hF.slot s _ hv, asAddr, h, Result.andThen]) hF.defers ⟨_, L2, rfl, hR, hw _ hO⟩
theorem at_retC0 (i : Nat) (hr : fn.results = #[.cell p T]) (hp : lk E p = some (ptr b off)) (hL : nth L i = some (b, .cells ⟨cs⟩ T' fz)) (hc : (cs.drop off).take k = vs) (hl : vs.length = k) (hs : aggB P T = true) (hz : szB P T k = true) (hw : ∀ w, Own w L → Own w L2) (hR : R (.agg ⟨vs⟩) L2) : AT (bodyPost P fn (Post R)) n .ret E L :=
  fun a w hF hO => bodyPost_ret (v := .agg ⟨vs⟩) (by
    have h := run_loadVarAgg (P := P) (T := T) hO hL hc hl hs hz
    simp [results, hr, hF.slot p _ hp, asAddr, h]) hF.defers ⟨_, L2, rfl, hR, hw _ hO⟩
end rets
end
end Go.SL
