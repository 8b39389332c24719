/- strings.Repeat at this program, by the kit's own contract of it. -/
import Derived.Test.YtkpndnjhfocheaaChecked
import Derived.Test.YtkpndnjhfocheaaSLn
import Derived.Shelf.Strings.Repeat
namespace Go.Proofs.Ytkpndnjhfocheaa
open Go.Shelf Go.RowKit Go.SL
variable {X : Inhabited SL.Outside}

def reRen : Ren where
  f := fun x => match x with
    | 105 => 34
    | 212 => 75
    | 99 => 31
    | 165 => 76
    | 166 => 77
    | 170 => 78
    | 169 => 79
    | 263 => 118
    | 264 => 119
    | 206 => 74
    | 240 => 120
    | 241 => 121
    | 276 => 169
    | 277 => 170
    | n => n
  t := fun x => match x with
    | 46 => 112
    | 109 => 159
    | 72 => 163
    | 76 => 166
    | 51 => 23
    | 146 => 216
    | 53 => 110
    | 148 => 218
    | 70 => 161
    | 37 => 24
    | 75 => 165
    | 127 => 220
    | 164 => 265
    | 80 => 168
    | n => n
  g := fun x => x
theorem reLays : Lays.n105 Try.prog reRen where
  mixed := by kernel_rfl
  f99 := Eq.trans Try.func31 (congrArg some (Eq.refl (Body.n99 reRen)))
  f105 := Eq.trans Try.func34 (congrArg some (Eq.refl (Body.n105 reRen)))
  f165 := Eq.trans Try.func76 (congrArg some (Eq.refl (Body.n165 reRen)))
  f166 := Eq.trans Try.func77 (congrArg some (Eq.refl (Body.n166 reRen)))
  f169 := Eq.trans Try.func79 (congrArg some (Eq.refl (Body.n169 reRen)))
  f170 := Eq.trans Try.func78 (congrArg some (Eq.refl (Body.n170 reRen)))
  f206 := Eq.trans Try.func74 (congrArg some (Eq.refl (Body.n206 reRen)))
  f212 := Eq.trans Try.func75 (congrArg some (Eq.refl (Body.n212 reRen)))
  f240 := Eq.trans Try.func120 (congrArg some (Eq.refl (Body.n240 reRen)))
  f241 := Eq.trans Try.func121 (congrArg some (Eq.refl (Body.n241 reRen)))
  f263 := Eq.trans Try.func118 (congrArg some (Eq.refl (Body.n263 reRen)))
  f264 := Eq.trans Try.func119 (congrArg some (Eq.refl (Body.n264 reRen)))
  f276 := Eq.trans Try.func169 (congrArg some (Eq.refl (Body.n276 reRen)))
  f277 := Eq.trans Try.func170 (congrArg some (Eq.refl (Body.n277 reRen)))
  t0 := Try.underlying0
  a0 := Try.isAgg0
  z0 := Try.sizeOf0
  v0 := Try.zeroValue0
  t3 := Try.underlying3
  a3 := Try.isAgg3
  z3 := Try.sizeOf3
  v3 := Try.zeroValue3
  t4 := Try.underlying4
  a4 := Try.isAgg4
  z4 := Try.sizeOf4
  v4 := Try.zeroValue4
  t5 := Try.underlying5
  a5 := Try.isAgg5
  z5 := Try.sizeOf5
  v5 := Try.zeroValue5
  t9 := Try.underlying9
  a9 := Try.isAgg9
  z9 := Try.sizeOf9
  v9 := Try.zeroValue9
  t20 := Try.underlying20
  a20 := Try.isAgg20
  z20 := Try.sizeOf20
  v20 := Try.zeroValue20
  t37 := Try.underlying24
  a37 := Try.isAgg24
  z37 := Try.sizeOf24
  v37 := Try.zeroValue24
  t46 := Try.underlying112
  a46 := Try.isAgg112
  z46 := Try.sizeOf112
  v46 := Try.zeroValue112
  t51 := Try.underlying23
  a51 := Try.isAgg23
  z51 := Try.sizeOf23
  v51 := Try.zeroValue23
  t53 := Try.underlying110
  a53 := Try.isAgg110
  z53 := Try.sizeOf110
  v53 := Try.zeroValue110
  t70 := Try.underlying161
  a70 := Try.isAgg161
  z70 := Try.sizeOf161
  v70 := Try.zeroValue161
  t72 := Try.underlying163
  a72 := Try.isAgg163
  z72 := Try.sizeOf163
  v72 := Try.zeroValue163
  t75 := Try.underlying165
  a75 := Try.isAgg165
  z75 := Try.sizeOf165
  v75 := Try.zeroValue165
  t76 := Try.underlying166
  a76 := Try.isAgg166
  z76 := Try.sizeOf166
  v76 := Try.zeroValue166
  t109 := Try.underlying159
  a109 := Try.isAgg159
  z109 := Try.sizeOf159
  v109 := Try.zeroValue159
  t127 := Try.underlying220
  a127 := Try.isAgg220
  z127 := Try.sizeOf220
  v127 := Try.zeroValue220
  t146 := Try.underlying216
  a146 := Try.isAgg216
  z146 := Try.sizeOf216
  v146 := Try.zeroValue216
  t148 := Try.underlying218
  a148 := Try.isAgg218
  z148 := Try.sizeOf218
  v148 := Try.zeroValue218
  t164 := Try.underlying265
  a164 := Try.isAgg265
  z164 := Try.sizeOf265
  v164 := Try.zeroValue265
theorem reExtra : Builder.Extra Try.prog reRen where
  sizeBuilder := by kernel_rfl
  liesBuilder := by kernel_rfl
  t5 := reLays.t5
  a5 := reLays.a5
  z5 := reLays.z5
  v5 := reLays.v5
  infoByte := by kernel_rfl
  cellsByte := by kernel_rfl
  sizeByte := by kernel_rfl
  neB5 := by decide

/-- What lies below a new block's number stays known. -/
theorem own_below {w w' : World} {L : Hp} (hO : Own w L) (h : Below w.heap.size w w') : Own w' L :=
  ⟨hO.nodup, fun b o hm => (h.block b (hO.lt hm)).trans (hO.mem b o hm), hO.same.trans ⟨h.os, h.output, h.tape⟩⟩
theorem repeat_spec (F : Hp) (s : List UInt8) (c : Nat) (hc : c ≤ 1000000) (hs : s.length ≤ 1000) : Ctr Try.prog 34 [S s, int c] F (fun v L' => v = S (Lib.repeatL s c) ∧ L' = F) := by
  intro w hO
  have hb : s.length * c ≤ 140737488355328 := by
    have := Nat.mul_le_mul hs hc
    omega
  refine (Any.strings_Repeat reLays reExtra ⟨⟨s⟩⟩ c w (by omega) hb).mono ?_
  rintro e w' ⟨rfl, hB⟩
  exact ⟨_, F, rfl, ⟨rfl, rfl⟩, own_below hO hB⟩
/-- One byte, k times. -/
theorem rep1_spec (F : Hp) (x : UInt8) (c : Nat) (hc : c ≤ 1000000) : Ctr Try.prog 34 [S [x], int c] F (fun v L' => v = S (List.replicate c x) ∧ L' = F) := by
  have h := repeat_spec (X := X) F [x] c hc (by simp)
  have e : Lib.repeatL [x] c = List.replicate c x := by
    have := Lib.repeatL_replicate x 1 c
    simpa using this
  rwa [e] at h
end Go.Proofs.Ytkpndnjhfocheaa
