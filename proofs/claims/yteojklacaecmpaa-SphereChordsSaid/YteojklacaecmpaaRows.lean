/-
  No cell of these rows narrows 'for every input' (looked for: loops, veiled, ifaces, maps, wideKeys, modest, calm, conditions, laid).
  DERIVED. THE GIVEN ROWS OF THIS SEAT. 7 by the template 'for every input the law returns true; each argument reads behind the call as it read before'; 0 by the template 'total and deterministic' (their statements: YteojklacaecmpaaTotals.lean).
  GIVEN WITH THE SEED: the statements are not yours to turn. If you find one false, say at which input.
  Laid BY PROGRAM, IN A SANDBOX (cutbox-rows.mjs): the forced cells as the released guide's own fill.sh prints them over the translation 6f75f7ff700145ae… (all of the seat's roots in one cut). By AI agents, Wed Nov 11 2026. No macro, syntax, notation, axiom, sorry.
-/
import Derived.Test.YteojklacaecmpaaChecked
import GoSem.Claim
import GoSem.ClaimJoined
import GoSem.ClaimMapViews
import Derived.JoinedTies
import Derived.KernelRfl
namespace Go.Proofs.Yteojklacaecmpaa
/- THE CELL 'sum', in the pinned program and in every row, IS THE sha256 OF THE DUMP (.gsa) THAT YteojklacaecmpaaProg.lean LOADS. Nothing in Lean hashes anything: it is a label: what it is worth is what the hold of that sum in a sandbox is worth. -/
noncomputable def Try.pinned : Pinned := { name := "yteojklacaecmpaa", sum := "6f75f7ff700145ae85ca7604f054e723e64c7bf472cb5a64bf9d1cbb931f8b79", checked := Try.checked }
namespace Rows
def none {H : Type} : Left H := { results := [], args := [] }

/-- 'mapsheetslaw12.SpherePlaces': WHATEVER THE INPUT: true; the input reads as it did. -/
def spherePlacesSpec : ChangeSpec := { name := "spherePlaces", fn := fun _ => fun
  | [d] => { results := [.lit (.bool true)], args := [d] }
  | _ => none }
def spherePlacesRow : OpenClaim := { program := "yteojklacaecmpaa", sum := "6f75f7ff700145ae85ca7604f054e723e64c7bf472cb5a64bf9d1cbb931f8b79", func := "mapsheets/mapsheetslaw12.SpherePlaces", spec := "spherePlaces", inPlace := ["internal/bytealg.IndexByteString", "internal/bytealg.IndexString"], recurses := true, named := ["internal/bytealg.MaxLen", "math/bits.divideError", "math/bits.overflowError"], apart := false }
def SpherePlacesSaid : Prop := spherePlacesRow.holds Try.pinned (OpenSpec.ofChange spherePlacesSpec)

/-- ITS FALSE NEIGHBOUR: 'it returns false'. Refute it at one input. -/
def spherePlacesWrong : ChangeSpec := { name := "spherePlaces", fn := fun _ => fun
  | [d] => { results := [.lit (.bool false)], args := [d] }
  | _ => none }
def SpherePlacesWrongFalsely : Prop := spherePlacesRow.holds Try.pinned (OpenSpec.ofChange spherePlacesWrong)

/-- 'mapsheetslaw12.SphereWraps': WHATEVER THE INPUT: true; the input reads as it did. -/
def sphereWrapsSpec : ChangeSpec := { name := "sphereWraps", fn := fun _ => fun
  | [d] => { results := [.lit (.bool true)], args := [d] }
  | _ => none }
def sphereWrapsRow : OpenClaim := { program := "yteojklacaecmpaa", sum := "6f75f7ff700145ae85ca7604f054e723e64c7bf472cb5a64bf9d1cbb931f8b79", func := "mapsheets/mapsheetslaw12.SphereWraps", spec := "sphereWraps", inPlace := ["internal/bytealg.IndexByteString", "internal/bytealg.IndexString"], recurses := true, named := ["internal/bytealg.MaxLen", "math/bits.divideError", "math/bits.overflowError"], apart := false }
def SphereWrapsSaid : Prop := sphereWrapsRow.holds Try.pinned (OpenSpec.ofChange sphereWrapsSpec)

/-- ITS FALSE NEIGHBOUR: 'it returns false'. Refute it at one input. -/
def sphereWrapsWrong : ChangeSpec := { name := "sphereWraps", fn := fun _ => fun
  | [d] => { results := [.lit (.bool false)], args := [d] }
  | _ => none }
def SphereWrapsWrongFalsely : Prop := sphereWrapsRow.holds Try.pinned (OpenSpec.ofChange sphereWrapsWrong)

/-- 'mapsheetslaw12.SphereParses': WHATEVER THE INPUT: true; the input reads as it did. -/
def sphereParsesSpec : ChangeSpec := { name := "sphereParses", fn := fun _ => fun
  | [d] => { results := [.lit (.bool true)], args := [d] }
  | _ => none }
def sphereParsesRow : OpenClaim := { program := "yteojklacaecmpaa", sum := "6f75f7ff700145ae85ca7604f054e723e64c7bf472cb5a64bf9d1cbb931f8b79", func := "mapsheets/mapsheetslaw12.SphereParses", spec := "sphereParses", inPlace := ["internal/bytealg.IndexByteString", "internal/bytealg.IndexString"], recurses := true, named := ["internal/bytealg.MaxLen", "math/bits.divideError", "math/bits.overflowError"], apart := false }
def SphereParsesSaid : Prop := sphereParsesRow.holds Try.pinned (OpenSpec.ofChange sphereParsesSpec)

/-- ITS FALSE NEIGHBOUR: 'it returns false'. Refute it at one input. -/
def sphereParsesWrong : ChangeSpec := { name := "sphereParses", fn := fun _ => fun
  | [d] => { results := [.lit (.bool false)], args := [d] }
  | _ => none }
def SphereParsesWrongFalsely : Prop := sphereParsesRow.holds Try.pinned (OpenSpec.ofChange sphereParsesWrong)

/-- 'mapsheetslaw12.SpherePrints': WHATEVER THE INPUT: true; the input reads as it did. -/
def spherePrintsSpec : ChangeSpec := { name := "spherePrints", fn := fun _ => fun
  | [d] => { results := [.lit (.bool true)], args := [d] }
  | _ => none }
def spherePrintsRow : OpenClaim := { program := "yteojklacaecmpaa", sum := "6f75f7ff700145ae85ca7604f054e723e64c7bf472cb5a64bf9d1cbb931f8b79", func := "mapsheets/mapsheetslaw12.SpherePrints", spec := "spherePrints", inPlace := ["internal/bytealg.IndexByteString", "internal/bytealg.IndexString"], recurses := true, named := ["internal/bytealg.MaxLen", "math/bits.divideError", "math/bits.overflowError"], apart := false }
def SpherePrintsSaid : Prop := spherePrintsRow.holds Try.pinned (OpenSpec.ofChange spherePrintsSpec)

/-- ITS FALSE NEIGHBOUR: 'it returns false'. Refute it at one input. -/
def spherePrintsWrong : ChangeSpec := { name := "spherePrints", fn := fun _ => fun
  | [d] => { results := [.lit (.bool false)], args := [d] }
  | _ => none }
def SpherePrintsWrongFalsely : Prop := spherePrintsRow.holds Try.pinned (OpenSpec.ofChange spherePrintsWrong)

/-- 'mapsheetslaw12.SphereBack': WHATEVER THE INPUT: true; the input reads as it did. -/
def sphereBackSpec : ChangeSpec := { name := "sphereBack", fn := fun _ => fun
  | [d1, d2] => { results := [.lit (.bool true)], args := [d1, d2] }
  | _ => none }
def sphereBackRow : OpenClaim := { program := "yteojklacaecmpaa", sum := "6f75f7ff700145ae85ca7604f054e723e64c7bf472cb5a64bf9d1cbb931f8b79", func := "mapsheets/mapsheetslaw12.SphereBack", spec := "sphereBack", inPlace := ["internal/bytealg.IndexByteString", "internal/bytealg.IndexString"], recurses := true, named := ["internal/bytealg.MaxLen", "math/bits.divideError", "math/bits.overflowError"], apart := false }
def SphereBackSaid : Prop := sphereBackRow.holds Try.pinned (OpenSpec.ofChange sphereBackSpec)

/-- ITS FALSE NEIGHBOUR: 'it returns false'. Refute it at one input. -/
def sphereBackWrong : ChangeSpec := { name := "sphereBack", fn := fun _ => fun
  | [d1, d2] => { results := [.lit (.bool false)], args := [d1, d2] }
  | _ => none }
def SphereBackWrongFalsely : Prop := sphereBackRow.holds Try.pinned (OpenSpec.ofChange sphereBackWrong)

/-- 'mapsheetslaw12.SphereChords': WHATEVER THE INPUT: true; the input reads as it did. -/
def sphereChordsSpec : ChangeSpec := { name := "sphereChords", fn := fun _ => fun
  | [d1, d2] => { results := [.lit (.bool true)], args := [d1, d2] }
  | _ => none }
def sphereChordsRow : OpenClaim := { program := "yteojklacaecmpaa", sum := "6f75f7ff700145ae85ca7604f054e723e64c7bf472cb5a64bf9d1cbb931f8b79", func := "mapsheets/mapsheetslaw12.SphereChords", spec := "sphereChords", inPlace := ["internal/bytealg.IndexByteString", "internal/bytealg.IndexString"], recurses := true, named := ["math/bits.divideError", "math/bits.overflowError", "internal/bytealg.MaxLen"], apart := false }
def SphereChordsSaid : Prop := sphereChordsRow.holds Try.pinned (OpenSpec.ofChange sphereChordsSpec)

/-- ITS FALSE NEIGHBOUR: 'it returns false'. Refute it at one input. -/
def sphereChordsWrong : ChangeSpec := { name := "sphereChords", fn := fun _ => fun
  | [d1, d2] => { results := [.lit (.bool false)], args := [d1, d2] }
  | _ => none }
def SphereChordsWrongFalsely : Prop := sphereChordsRow.holds Try.pinned (OpenSpec.ofChange sphereChordsWrong)

/-- 'mapsheetslaw12.SphereTriangle': WHATEVER THE INPUT: true; the input reads as it did. -/
def sphereTriangleSpec : ChangeSpec := { name := "sphereTriangle", fn := fun _ => fun
  | [d1, d2, d3] => { results := [.lit (.bool true)], args := [d1, d2, d3] }
  | _ => none }
def sphereTriangleRow : OpenClaim := { program := "yteojklacaecmpaa", sum := "6f75f7ff700145ae85ca7604f054e723e64c7bf472cb5a64bf9d1cbb931f8b79", func := "mapsheets/mapsheetslaw12.SphereTriangle", spec := "sphereTriangle", inPlace := ["internal/bytealg.IndexByteString", "internal/bytealg.IndexString"], recurses := true, named := ["internal/bytealg.MaxLen", "math/bits.divideError", "math/bits.overflowError"], apart := false }
def SphereTriangleSaid : Prop := sphereTriangleRow.holds Try.pinned (OpenSpec.ofChange sphereTriangleSpec)

/-- ITS FALSE NEIGHBOUR: 'it returns false'. Refute it at one input. -/
def sphereTriangleWrong : ChangeSpec := { name := "sphereTriangle", fn := fun _ => fun
  | [d1, d2, d3] => { results := [.lit (.bool false)], args := [d1, d2, d3] }
  | _ => none }
def SphereTriangleWrongFalsely : Prop := sphereTriangleRow.holds Try.pinned (OpenSpec.ofChange sphereTriangleWrong)

/- THE SECOND FORM. 'bulk': how many values and letters a reading holds, each counted each time it is reached (what is shared counts as often as it is met; a slice's spare places count too). A statement '..UptoSaid' is the law's where the arguments, and the package variables that the reading takes, are together of bulk at most 1048576: NARROWER than '..Said'. Prove '..Said' where nothing that the law and all that it calls make is longer than what came in: it says more and counts as full. Else prove '..UptoSaid'. A law counts once. -/
mutual
def uptoBulk {H : Type} : DataW H → Nat
  | .lit (.string bytes) => bytes.length + 1
  | .lit _ => 1
  | .nil => 1
  | .ptr d => uptoBulk d + 1
  | .slice elems spare => uptoBulkAll elems + uptoBulkAll spare + 1
  | .agg parts => uptoBulkAll parts + 1
  | .iface _ d => uptoBulk d + 1
  | .map entries => uptoBulkEntries entries + 1
  | .held _ => 1
def uptoBulkAll {H : Type} : List (DataW H) → Nat
  | [] => 0
  | d :: r => uptoBulk d + uptoBulkAll r
def uptoBulkEntries {H : Type} : List (Lit × DataW H) → Nat
  | [] => 0
  | x :: r => uptoBulkEntry x + uptoBulkEntries r
def uptoBulkEntry {H : Type} : Lit × DataW H → Nat
  | (.string bytes, d) => bytes.length + uptoBulk d + 1
  | (_, d) => uptoBulk d + 1
 end
def uptoSmall : (H : Type) → List (DataW H) → Bool := fun _ ds => decide (uptoBulkAll ds ≤ 1048576)
def OpenSpec.upto (s : _root_.Go.ChangeSpec) : _root_.Go.OpenSpec := { _root_.Go.OpenSpec.ofChange s with cond := some uptoSmall }

/-- 'mapsheetslaw12.SpherePlaces', WHERE WHAT IT READS IS OF BULK AT MOST 1048576: true; the input reads as it did. -/
def spherePlacesUptoRow : OpenClaim := { program := "yteojklacaecmpaa", sum := "6f75f7ff700145ae85ca7604f054e723e64c7bf472cb5a64bf9d1cbb931f8b79", func := "mapsheets/mapsheetslaw12.SpherePlaces", spec := "spherePlaces", inPlace := ["internal/bytealg.IndexByteString", "internal/bytealg.IndexString"], recurses := true, named := ["internal/bytealg.MaxLen", "math/bits.divideError", "math/bits.overflowError"], apart := false, narrowed := true }
def SpherePlacesUptoSaid : Prop := spherePlacesUptoRow.holds Try.pinned (OpenSpec.upto spherePlacesSpec)

/-- 'mapsheetslaw12.SphereWraps', WHERE WHAT IT READS IS OF BULK AT MOST 1048576: true; the input reads as it did. -/
def sphereWrapsUptoRow : OpenClaim := { program := "yteojklacaecmpaa", sum := "6f75f7ff700145ae85ca7604f054e723e64c7bf472cb5a64bf9d1cbb931f8b79", func := "mapsheets/mapsheetslaw12.SphereWraps", spec := "sphereWraps", inPlace := ["internal/bytealg.IndexByteString", "internal/bytealg.IndexString"], recurses := true, named := ["internal/bytealg.MaxLen", "math/bits.divideError", "math/bits.overflowError"], apart := false, narrowed := true }
def SphereWrapsUptoSaid : Prop := sphereWrapsUptoRow.holds Try.pinned (OpenSpec.upto sphereWrapsSpec)

/-- 'mapsheetslaw12.SphereParses', WHERE WHAT IT READS IS OF BULK AT MOST 1048576: true; the input reads as it did. -/
def sphereParsesUptoRow : OpenClaim := { program := "yteojklacaecmpaa", sum := "6f75f7ff700145ae85ca7604f054e723e64c7bf472cb5a64bf9d1cbb931f8b79", func := "mapsheets/mapsheetslaw12.SphereParses", spec := "sphereParses", inPlace := ["internal/bytealg.IndexByteString", "internal/bytealg.IndexString"], recurses := true, named := ["internal/bytealg.MaxLen", "math/bits.divideError", "math/bits.overflowError"], apart := false, narrowed := true }
def SphereParsesUptoSaid : Prop := sphereParsesUptoRow.holds Try.pinned (OpenSpec.upto sphereParsesSpec)

/-- 'mapsheetslaw12.SpherePrints', WHERE WHAT IT READS IS OF BULK AT MOST 1048576: true; the input reads as it did. -/
def spherePrintsUptoRow : OpenClaim := { program := "yteojklacaecmpaa", sum := "6f75f7ff700145ae85ca7604f054e723e64c7bf472cb5a64bf9d1cbb931f8b79", func := "mapsheets/mapsheetslaw12.SpherePrints", spec := "spherePrints", inPlace := ["internal/bytealg.IndexByteString", "internal/bytealg.IndexString"], recurses := true, named := ["internal/bytealg.MaxLen", "math/bits.divideError", "math/bits.overflowError"], apart := false, narrowed := true }
def SpherePrintsUptoSaid : Prop := spherePrintsUptoRow.holds Try.pinned (OpenSpec.upto spherePrintsSpec)

/-- 'mapsheetslaw12.SphereBack', WHERE WHAT IT READS IS OF BULK AT MOST 1048576: true; the input reads as it did. -/
def sphereBackUptoRow : OpenClaim := { program := "yteojklacaecmpaa", sum := "6f75f7ff700145ae85ca7604f054e723e64c7bf472cb5a64bf9d1cbb931f8b79", func := "mapsheets/mapsheetslaw12.SphereBack", spec := "sphereBack", inPlace := ["internal/bytealg.IndexByteString", "internal/bytealg.IndexString"], recurses := true, named := ["internal/bytealg.MaxLen", "math/bits.divideError", "math/bits.overflowError"], apart := false, narrowed := true }
def SphereBackUptoSaid : Prop := sphereBackUptoRow.holds Try.pinned (OpenSpec.upto sphereBackSpec)

/-- 'mapsheetslaw12.SphereChords', WHERE WHAT IT READS IS OF BULK AT MOST 1048576: true; the input reads as it did. -/
def sphereChordsUptoRow : OpenClaim := { program := "yteojklacaecmpaa", sum := "6f75f7ff700145ae85ca7604f054e723e64c7bf472cb5a64bf9d1cbb931f8b79", func := "mapsheets/mapsheetslaw12.SphereChords", spec := "sphereChords", inPlace := ["internal/bytealg.IndexByteString", "internal/bytealg.IndexString"], recurses := true, named := ["math/bits.divideError", "math/bits.overflowError", "internal/bytealg.MaxLen"], apart := false, narrowed := true }
def SphereChordsUptoSaid : Prop := sphereChordsUptoRow.holds Try.pinned (OpenSpec.upto sphereChordsSpec)

/-- 'mapsheetslaw12.SphereTriangle', WHERE WHAT IT READS IS OF BULK AT MOST 1048576: true; the input reads as it did. -/
def sphereTriangleUptoRow : OpenClaim := { program := "yteojklacaecmpaa", sum := "6f75f7ff700145ae85ca7604f054e723e64c7bf472cb5a64bf9d1cbb931f8b79", func := "mapsheets/mapsheetslaw12.SphereTriangle", spec := "sphereTriangle", inPlace := ["internal/bytealg.IndexByteString", "internal/bytealg.IndexString"], recurses := true, named := ["internal/bytealg.MaxLen", "math/bits.divideError", "math/bits.overflowError"], apart := false, narrowed := true }
def SphereTriangleUptoSaid : Prop := sphereTriangleUptoRow.holds Try.pinned (OpenSpec.upto sphereTriangleSpec)

end Rows
end Go.Proofs.Yteojklacaecmpaa
