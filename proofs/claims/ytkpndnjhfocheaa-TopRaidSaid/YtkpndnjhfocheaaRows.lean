/-
  No cell of these rows narrows 'for every input' (looked for: loops, veiled, ifaces, maps, wideKeys, modest, calm, conditions, laid).
  DERIVED. THE GIVEN ROWS OF THIS SEAT. 4 by the template 'for every input the law returns true; each argument reads behind the call as it read before'; 0 by the template 'total and deterministic' (their statements: YtkpndnjhfocheaaTotals.lean).
  GIVEN WITH THE SEED: the statements are not yours to turn. If you find one false, say at which input.
  Laid BY PROGRAM, IN A SANDBOX (cutbox-rows.mjs): the forced cells as the released guide's own fill.sh prints them over the translation 941aa2bf7088f8da… (all of the seat's roots in one cut). By AI agents, Wed Nov 11 2026. No macro, syntax, notation, axiom, sorry.
-/
import Derived.Test.YtkpndnjhfocheaaChecked
import GoSem.Claim
import GoSem.ClaimJoined
import GoSem.ClaimMapViews
import Derived.JoinedTies
import Derived.KernelRfl
namespace Go.Proofs.Ytkpndnjhfocheaa
/- THE CELL 'sum', in the pinned program and in every row, IS THE sha256 OF THE DUMP (.gsa) THAT YtkpndnjhfocheaaProg.lean LOADS. Nothing in Lean hashes anything: it is a label: what it is worth is what the hold of that sum in a sandbox is worth. -/
noncomputable def Try.pinned : Pinned := { name := "ytkpndnjhfocheaa", sum := "941aa2bf7088f8dae55136405beb061bf3d4bdda6ed81d754878c190720cb7d1", checked := Try.checked }
namespace Rows
def none {H : Type} : Left H := { results := [], args := [] }

/-- 'blockyardtop.TopWrapped': WHATEVER THE INPUT: true; the input reads as it did. -/
def topWrappedSpec : ChangeSpec := { name := "topWrapped", fn := fun _ => fun
  | [d1, d2, d3, d4, d5] => { results := [.lit (.bool true)], args := [d1, d2, d3, d4, d5] }
  | _ => none }
def topWrappedRow : OpenClaim := { program := "ytkpndnjhfocheaa", sum := "941aa2bf7088f8dae55136405beb061bf3d4bdda6ed81d754878c190720cb7d1", func := "blockyard/blockyardtop.TopWrapped", spec := "topWrapped", unfollowed := true, recurses := true, plainKeys := false, apart := false }
def TopWrappedSaid : Prop := topWrappedRow.holds Try.pinned (OpenSpec.ofChange topWrappedSpec)

/-- ITS FALSE NEIGHBOUR: 'it returns false'. Refute it at one input. -/
def topWrappedWrong : ChangeSpec := { name := "topWrapped", fn := fun _ => fun
  | [d1, d2, d3, d4, d5] => { results := [.lit (.bool false)], args := [d1, d2, d3, d4, d5] }
  | _ => none }
def TopWrappedWrongFalsely : Prop := topWrappedRow.holds Try.pinned (OpenSpec.ofChange topWrappedWrong)

/-- 'blockyardtop.TopPiped': WHATEVER THE INPUT: true; the input reads as it did. -/
def topPipedSpec : ChangeSpec := { name := "topPiped", fn := fun _ => fun
  | [d1, d2, d3, d4] => { results := [.lit (.bool true)], args := [d1, d2, d3, d4] }
  | _ => none }
def topPipedRow : OpenClaim := { program := "ytkpndnjhfocheaa", sum := "941aa2bf7088f8dae55136405beb061bf3d4bdda6ed81d754878c190720cb7d1", func := "blockyard/blockyardtop.TopPiped", spec := "topPiped", unfollowed := true, recurses := true, plainKeys := false, apart := false }
def TopPipedSaid : Prop := topPipedRow.holds Try.pinned (OpenSpec.ofChange topPipedSpec)

/-- ITS FALSE NEIGHBOUR: 'it returns false'. Refute it at one input. -/
def topPipedWrong : ChangeSpec := { name := "topPiped", fn := fun _ => fun
  | [d1, d2, d3, d4] => { results := [.lit (.bool false)], args := [d1, d2, d3, d4] }
  | _ => none }
def TopPipedWrongFalsely : Prop := topPipedRow.holds Try.pinned (OpenSpec.ofChange topPipedWrong)

/-- 'blockyardtop.TopSupers': WHATEVER THE INPUT: true; the input reads as it did. -/
def topSupersSpec : ChangeSpec := { name := "topSupers", fn := fun _ => fun
  | [d1, d2, d3, d4, d5, d6, d7] => { results := [.lit (.bool true)], args := [d1, d2, d3, d4, d5, d6, d7] }
  | _ => none }
def topSupersRow : OpenClaim := { program := "ytkpndnjhfocheaa", sum := "941aa2bf7088f8dae55136405beb061bf3d4bdda6ed81d754878c190720cb7d1", func := "blockyard/blockyardtop.TopSupers", spec := "topSupers", inPlace := ["internal/abi.NoEscape", "internal/bytealg.MakeNoZero"], unfollowed := true, recurses := true, plainKeys := false, apart := false }
def TopSupersSaid : Prop := topSupersRow.holds Try.pinned (OpenSpec.ofChange topSupersSpec)

/-- ITS FALSE NEIGHBOUR: 'it returns false'. Refute it at one input. -/
def topSupersWrong : ChangeSpec := { name := "topSupers", fn := fun _ => fun
  | [d1, d2, d3, d4, d5, d6, d7] => { results := [.lit (.bool false)], args := [d1, d2, d3, d4, d5, d6, d7] }
  | _ => none }
def TopSupersWrongFalsely : Prop := topSupersRow.holds Try.pinned (OpenSpec.ofChange topSupersWrong)

/-- 'blockyardtop.TopRaid': WHATEVER THE INPUT: true; the input reads as it did. -/
def topRaidSpec : ChangeSpec := { name := "topRaid", fn := fun _ => fun
  | [d1, d2] => { results := [.lit (.bool true)], args := [d1, d2] }
  | _ => none }
def topRaidRow : OpenClaim := { program := "ytkpndnjhfocheaa", sum := "941aa2bf7088f8dae55136405beb061bf3d4bdda6ed81d754878c190720cb7d1", func := "blockyard/blockyardtop.TopRaid", spec := "topRaid", inPlace := ["internal/abi.NoEscape", "internal/bytealg.MakeNoZero"], unfollowed := true, recurses := true, plainKeys := false, apart := false }
def TopRaidSaid : Prop := topRaidRow.holds Try.pinned (OpenSpec.ofChange topRaidSpec)

/-- ITS FALSE NEIGHBOUR: 'it returns false'. Refute it at one input. -/
def topRaidWrong : ChangeSpec := { name := "topRaid", fn := fun _ => fun
  | [d1, d2] => { results := [.lit (.bool false)], args := [d1, d2] }
  | _ => none }
def TopRaidWrongFalsely : Prop := topRaidRow.holds Try.pinned (OpenSpec.ofChange topRaidWrong)

/- THE SECOND FORM. 'bulk': how many values and letters a reading holds, each counted each time it is reached (what is shared counts as often as it is met; a slice's spare places count too). A statement '..UptoSaid' is the law's where the arguments, and the package variables that the reading takes, are together of bulk at most 1048576: NARROWER than '..Said'. Prove '..Said' where nothing that the law and all that it calls make is longer than what came in: it says more and counts as full. Else prove '..UptoSaid'. A law counts once. -/
mutual
def uptoBulk {H : Type} : DataW H → Nat
  | .lit (.string bytes) => bytes.length + 1
  | .lit _ => 1
  | .nil => 1
  | .ptr d => uptoBulk d + 1
  | .slice elems spare => uptoBulkAll elems + uptoBulkAll spare + 1
  | .agg parts => uptoBulkAll parts + 1
  | .iface _ d => uptoBulk d + 1
  | .map entries => uptoBulkEntries entries + 1
  | .held _ => 1
def uptoBulkAll {H : Type} : List (DataW H) → Nat
  | [] => 0
  | d :: r => uptoBulk d + uptoBulkAll r
def uptoBulkEntries {H : Type} : List (Lit × DataW H) → Nat
  | [] => 0
  | x :: r => uptoBulkEntry x + uptoBulkEntries r
def uptoBulkEntry {H : Type} : Lit × DataW H → Nat
  | (.string bytes, d) => bytes.length + uptoBulk d + 1
  | (_, d) => uptoBulk d + 1
 end
def uptoSmall : (H : Type) → List (DataW H) → Bool := fun _ ds => decide (uptoBulkAll ds ≤ 1048576)
def OpenSpec.upto (s : _root_.Go.ChangeSpec) : _root_.Go.OpenSpec := { _root_.Go.OpenSpec.ofChange s with cond := some uptoSmall }

/-- 'blockyardtop.TopWrapped', WHERE WHAT IT READS IS OF BULK AT MOST 1048576: true; the input reads as it did. -/
def topWrappedUptoRow : OpenClaim := { program := "ytkpndnjhfocheaa", sum := "941aa2bf7088f8dae55136405beb061bf3d4bdda6ed81d754878c190720cb7d1", func := "blockyard/blockyardtop.TopWrapped", spec := "topWrapped", unfollowed := true, recurses := true, plainKeys := false, apart := false, narrowed := true }
def TopWrappedUptoSaid : Prop := topWrappedUptoRow.holds Try.pinned (OpenSpec.upto topWrappedSpec)

/-- 'blockyardtop.TopPiped', WHERE WHAT IT READS IS OF BULK AT MOST 1048576: true; the input reads as it did. -/
def topPipedUptoRow : OpenClaim := { program := "ytkpndnjhfocheaa", sum := "941aa2bf7088f8dae55136405beb061bf3d4bdda6ed81d754878c190720cb7d1", func := "blockyard/blockyardtop.TopPiped", spec := "topPiped", unfollowed := true, recurses := true, plainKeys := false, apart := false, narrowed := true }
def TopPipedUptoSaid : Prop := topPipedUptoRow.holds Try.pinned (OpenSpec.upto topPipedSpec)

/-- 'blockyardtop.TopSupers', WHERE WHAT IT READS IS OF BULK AT MOST 1048576: true; the input reads as it did. -/
def topSupersUptoRow : OpenClaim := { program := "ytkpndnjhfocheaa", sum := "941aa2bf7088f8dae55136405beb061bf3d4bdda6ed81d754878c190720cb7d1", func := "blockyard/blockyardtop.TopSupers", spec := "topSupers", inPlace := ["internal/abi.NoEscape", "internal/bytealg.MakeNoZero"], unfollowed := true, recurses := true, plainKeys := false, apart := false, narrowed := true }
def TopSupersUptoSaid : Prop := topSupersUptoRow.holds Try.pinned (OpenSpec.upto topSupersSpec)

/-- 'blockyardtop.TopRaid', WHERE WHAT IT READS IS OF BULK AT MOST 1048576: true; the input reads as it did. -/
def topRaidUptoRow : OpenClaim := { program := "ytkpndnjhfocheaa", sum := "941aa2bf7088f8dae55136405beb061bf3d4bdda6ed81d754878c190720cb7d1", func := "blockyard/blockyardtop.TopRaid", spec := "topRaid", inPlace := ["internal/abi.NoEscape", "internal/bytealg.MakeNoZero"], unfollowed := true, recurses := true, plainKeys := false, apart := false, narrowed := true }
def TopRaidUptoSaid : Prop := topRaidUptoRow.holds Try.pinned (OpenSpec.upto topRaidSpec)

end Rows
end Go.Proofs.Ytkpndnjhfocheaa
