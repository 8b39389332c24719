/- TopRaid returns true for every input, and every argument reads behind the call as it read before: on members that are plain lists the rows that are read and written are a plain list of sectors, also while one member is out, and behind a rebuild. No condition. -/
import Derived.Test.YtkpndnjhfocheaaRows
import Derived.WalkKit
import Derived.ProofKit
import Derived.OpenShut
import Derived.ShutString
import Derived.ChangeOld
import Derived.ChangeArms
import Derived.Below
import Derived.Test.YtkpndnjhfocheaaRaidQ
namespace Go.Proofs.Ytkpndnjhfocheaa.topRaid
open Go.ChangeShapes Go.WideShapes Go.ChangeAt Go.RowKit
open Go.ChangeMaps (open_string shut_string)
open Go.SL (whole_own)
theorem own : ownKnob Try.prog.godebug = none := by kernel_rfl
theorem laidOut : laidOutB Try.prog = true := by kernel_rfl

/-- A slice of turns that came in: nothing is asked of an empty one. -/
def IsTurns (w : World) (a : Option Addr) (len : Nat) : Prop :=
  len = 0 ∨ ∃ x, a = some x ∧ ∀ j, j < len → ∃ p q r s : Int, (∀ i, i < 4 → w.cell? (x.add (j * 4 + i)) = (tv p q r s)[i]?) ∧ Tb p q r s

theorem add_two (a : Addr) (i j : Nat) : (a.add i).add j = a.add (i + j) := by
  unfold Addr.add
  by_cases hi : i = 0
  · simp [hi]
  · by_cases hj : j = 0
    · simp [hj]
    · simp [hi, hj, Nat.add_assoc]

theorem u8_of {n : Int} (h : (Lit.int .u8 n).wf = true) : 0 ≤ n ∧ n < 256 := by
  have : 0 ≤ n ∧ n ≤ 255 := by simpa [Lit.wf, IntKind.min, IntKind.max, IntKind.signed, IntKind.bits] using h
  omega

section
variable {H : Type} {enc : TypeId × Value → H} {w : World} {base : Nat} {sp : Nat → Bool} {held : Bool}
set_option maxRecDepth 100000 in
theorem turn_cells {fuel : Nat} {cs : List Value} {x : DataW H × List MemPlace} (h : DataW.trod enc Try.prog w base sp held fuel 95 cs = some x) : ∃ p q r s : Int, cs = tv p q r s ∧ Tb p q r s := by
  obtain ⟨xs, n, _, _, hl, hlen, hf⟩ := DataW.trod_struct Try.underlying95 h
  have hC : Try.prog.cellsOf 95 = 4 := by kernel_rfl
  have hC5 : Try.prog.cellsOf 5 = 1 := by kernel_rfl
  rw [hC] at hl
  match cs, hl with
  | [c0, c1, c2, c3], _ =>
    have hx : ∀ i, i < 4 → ∃ y, xs[i]? = some y := fun i hi => ⟨_, List.getElem?_eq_getElem (by rw [hlen]; exact hi)⟩
    have h0 : DataW.trod enc Try.prog w base sp held n 5 (([c0, c1, c2, c3].drop 0).take (Try.prog.cellsOf 5)) = xs[0]? := hf 0 _ rfl
    have h1 : DataW.trod enc Try.prog w base sp held n 5 (([c0, c1, c2, c3].drop 1).take (Try.prog.cellsOf 5)) = xs[1]? := hf 1 _ rfl
    have h2 : DataW.trod enc Try.prog w base sp held n 5 (([c0, c1, c2, c3].drop 2).take (Try.prog.cellsOf 5)) = xs[2]? := hf 2 _ rfl
    have h3 : DataW.trod enc Try.prog w base sp held n 5 (([c0, c1, c2, c3].drop 3).take (Try.prog.cellsOf 5)) = xs[3]? := hf 3 _ rfl
    obtain ⟨y0, e0⟩ := hx 0 (by decide)
    obtain ⟨y1, e1⟩ := hx 1 (by decide)
    obtain ⟨y2, e2⟩ := hx 2 (by decide)
    obtain ⟨y3, e3⟩ := hx 3 (by decide)
    rw [e0, hC5] at h0
    rw [e1, hC5] at h1
    rw [e2, hC5] at h2
    rw [e3, hC5] at h3
    obtain ⟨m0, k0, _, w0⟩ := DataW.trod_int Try.underlying5 h0
    obtain ⟨m1, k1, _, w1⟩ := DataW.trod_int Try.underlying5 h1
    obtain ⟨m2, k2, _, w2⟩ := DataW.trod_int Try.underlying5 h2
    obtain ⟨m3, k3, _, w3⟩ := DataW.trod_int Try.underlying5 h3
    have g0 : c0 = .int .u8 m0 := by simpa using k0
    have g1 : c1 = .int .u8 m1 := by simpa using k1
    have g2 : c2 = .int .u8 m2 := by simpa using k2
    have g3 : c3 = .int .u8 m3 := by simpa using k3
    exact ⟨m0, m1, m2, m3, by rw [g0, g1, g2, g3]; rfl, u8_of w0, u8_of w1, u8_of w2, u8_of w3⟩
theorem turns_open {fuel : Nat} {a : Option Addr} {len cap : Nat} {x : DataW H × List MemPlace} (h : DataW.trod enc Try.prog w base sp held fuel 91 [.slice a len cap] = some x) : IsTurns w a len := by
  rcases DataW.trod_slice Try.underlying91 h with ⟨hcs, _⟩ | ⟨y, l, c, elems, rest, n, _, hcs, _, _, _, _, hlen, hel, _, _⟩
  · simp at hcs
    exact .inl hcs.2.1
  · simp at hcs
    obtain ⟨rfl, rfl, rfl⟩ := hcs
    refine .inr ⟨y, rfl, fun j hj => ?_⟩
    have hC : Try.prog.cellsOf 95 = 4 := by kernel_rfl
    have h1 := hel j hj
    rw [hC, List.getElem?_eq_getElem (by omega), Option.bind_eq_some_iff] at h1
    obtain ⟨cs, hc, ht⟩ := h1
    obtain ⟨p, q, r, s, rfl, hb⟩ := turn_cells ht
    obtain ⟨_, _, hat⟩ := World.cells?_some hc
    refine ⟨p, q, r, s, fun i hi => ?_, hb⟩
    rw [← hat i hi, add_two]
end

theorem turns_of {w : World} {F : Go.SL.Hp} (hall : ∀ b o, w.heap[b]? = some o → (b, o) ∈ F) {a : Option Addr} {len : Nat} (h : IsTurns w a len) : Turns F a len := by
  rcases h with h0 | ⟨x, rfl, hc⟩
  · exact .inl h0
  · by_cases h0 : len = 0
    · exact .inl h0
    · obtain ⟨b, off, spot⟩ := x
      obtain ⟨p, q, r, s, hp, _⟩ := hc 0 (by omega)
      have h1 := hp 0 (by decide)
      have hspot : spot = none := by
        have h2 : w.cell? (Addr.add ⟨b, off, spot⟩ (0 * 4 + 0)) = some (.int .u8 p) := h1
        simpa [Addr.add] using World.cell?_spot h2
      subst hspot
      have h3 : w.cell? ⟨b, off, none⟩ = some (.int .u8 p) := by simpa [Addr.add, tv] using h1
      unfold World.cell? at h3
      cases hb : w.heap[b]? with
      | none => simp [hb] at h3
      | some o =>
        cases o with
        | cells c T fz =>
          refine .inr ⟨b, off, c.toList, T, fz, rfl, hall _ _ hb, fun j hj => ?_⟩
          obtain ⟨p, q, r, s, hp, hb4⟩ := hc j hj
          refine ⟨p, q, r, s, ?_, hb4⟩
          have hg : ∀ i, i < 4 → c.toList[off + j * 4 + i]? = (tv p q r s)[i]? := fun i hi => by
            have h := hp i hi
            rw [← h, Go.SL.addr_add]
            simp [World.cell?, hb, Nat.add_assoc]
          apply List.ext_getElem?
          intro i
          by_cases hi : i < 4
          · rw [List.getElem?_take_of_lt hi, List.getElem?_drop]
            exact hg i hi
          · rw [List.getElem?_eq_none (by rw [List.length_take]; omega), List.getElem?_eq_none (by show 4 ≤ i; omega)]
        | _ => simp [hb] at h3

theorem below_of [X : Inhabited Go.SL.Outside] {w w' : World} {F : Go.SL.Hp} (hX : X.default.w0 = w) (hall : ∀ b o, w.heap[b]? = some o → (b, o) ∈ F) (hO : Go.SL.Own w' F) : Below w.heap.size w w' := by
  have hE : Go.SL.Ext w w' := ⟨fun b o h => hO.mem b o (hall b o h), hX ▸ hO.same⟩
  refine ⟨hE.same.1, hE.same.2.2, hE.same.2.1, hE.size, fun k hk => ?_⟩
  have h1 : w.heap[k]? = some w.heap[k] := Array.getElem?_eq_getElem hk
  rw [h1, hE.blk k _ h1]

/-- The walk: it returns true, and writes nothing that was there. -/
theorem walk (a0 : Int) (a1 : Option Addr) (len1 cap1 : Nat) (w : World) (w0 : (Lit.int .u8 a0).wf = true) (w1 : IsTurns w a1 len1) :
    Calls Try.prog 6 #[.int .u8 a0, .slice a1 len1 cap1] w fun e w' => e = .returned (.bool true) ∧ Below w.heap.size w w' := by
  letI X : Inhabited Go.SL.Outside := ⟨⟨w⟩⟩
  obtain ⟨F, hF, hall⟩ := whole_own (X := X) (w := w) (L := []) ⟨by simp, fun b o h => absurd h (by simp), Go.SL.Same.refl w⟩
  rw [List.nil_append] at hF
  simp only [List.nil_append] at hall
  refine (raid_spec F a0 a1 len1 cap1 (u8_of w0) (turns_of hall w1) w hF).mono fun e w' h => ?_
  obtain ⟨v, L', rfl, ⟨rfl, rfl⟩, hO⟩ := h
  exact ⟨rfl, below_of rfl hall hO⟩

set_option maxRecDepth 100000 in
theorem lifted (os : Os) (started : os.Started) (H : Type) (enc : TypeId × Value → H) :
    ReturnsInHanded {} Try.checked os 6 .any (Rows.topRaidSpec.pre6 enc Try.prog Try.f6 Rows.topRaidRow.domain false) (Rows.topRaidSpec.post enc Try.prog Try.f6 false true false false) := by
  refine returnsInHanded_of_change (C := Try.checked) own started (by kernel_rfl) Try.func6
    (ChangeSpec.witness6 (enc := enc) (C := Try.checked) false ⟨#[], #[.int .u8 0, .slice none 0 0], []⟩ 8 (by kernel_rfl) (by kernel_rfl) (by kernel_rfl) (by kernel_rfl)) ?_
  intro W base args ds gs before hval0 hW hcnd _
  have hval : ∀ (j : Nat) t v, Try.f6.params[j]? = some t → args[j]? = some v → Value.okWide Try.prog W .any base t v := hval0
  have hW' := hW
  obtain ⟨p, q, hA0, hV, rfl, hfz, hnd⟩ := hW
  have hA : DataW.TrodAll enc Try.prog W 0 (fun _ => true) true Try.f6.params.toList args.toList ds p := hA0
  rw [Try.params6] at hA hval
  obtain ⟨v0, vs0, d0, ds0, p0, q0, hargs, rfl, rfl, h0, r0⟩ := trodAll_cons hA
  obtain ⟨v1, vs1, d1, ds1, p1, q1, rfl, rfl, rfl, h1, r1⟩ := trodAll_cons r0
  obtain ⟨rfl, rfl, rfl⟩ := trodAll_nil r1
  obtain rfl : args = #[v0, v1] := by cases args; simp_all
  obtain ⟨rfl, rfl⟩ := trodVars_none hV
  obtain ⟨a0, rfl, rfl, rfl, w0⟩ := open_int Try.underlying5 (hval 0 5 v0 rfl rfl) h0
  obtain ⟨a1, len1, cap1, rfl⟩ := okWide_slice Try.underlying91 (hval 1 91 v1 rfl rfl)
  have k1 := h1
  have lt1 : ∀ x ∈ p1, x.block < W.heap.size := by obtain ⟨m, hm⟩ := k1; exact DataW.trod_lt m _ _ _ hm
  have w1 : IsTurns W a1 len1 := by
    obtain ⟨fuel, hf⟩ := h1
    exact turns_open (by simpa [Value.cells] using hf)
  clear hA0 hval0
  refine (walk a0 a1 len1 cap1 W w0 w1).mono fun e W' ⟨he, bel⟩ => ?_
  subst he
  exact ⟨_, rfl, _, _, _, [], _, [], hW', trodAll_mk1 (shut_bool Try.underlying4 _), (trodAll_cons_mk (shut_int Try.underlying5 w0) (trodAll_cons_mk (Below.trod laidOut (by kernel_rfl) (of_decide_eq_true (by kernel_rfl)) k1 bel lt1) trodAll_mk0)), rfl, bel.frame _, fun h => by cases h⟩

theorem over : Rows.topRaidRow.holds Try.pinned (OpenSpec.ofChange Rows.topRaidSpec) :=
  OpenClaim.holds_of_wide 6 Try.f6 rfl rfl rfl rfl rfl rfl rfl ⟨rfl, rfl, rfl, rfl, rfl⟩ rfl rfl rfl rfl rfl (by kernel_rfl) Try.func6 (by kernel_rfl)
    (of_decide_eq_true (by kernel_rfl)) (by unfold Func.isWrapper; first | (rw [if_pos (by decide +kernel)]; kernel_rfl) | (rw [if_neg (by decide +kernel)]; exact ⟨rfl, rfl⟩))
    (fun os started H enc _ => lifted os started H enc)

theorem proved : Rows.TopRaidSaid := over
#print axioms proved
end Go.Proofs.Ytkpndnjhfocheaa.topRaid
