/-
  No cell of these rows narrows 'for every input' (looked for: loops, veiled, ifaces, maps, wideKeys, modest, calm, conditions, laid).
  DERIVED. THE GIVEN ROWS OF THIS SEAT. 9 by the template 'for every input the law returns true; each argument reads behind the call as it read before'; 0 by the template 'total and deterministic' (their statements: YtjhmpobnoccobaaTotals.lean).
  GIVEN WITH THE SEED: the statements are not yours to turn. If you find one false, say at which input.
  Laid BY PROGRAM, IN A SANDBOX (cutbox-rows.mjs): the forced cells as the released guide's own fill.sh prints them over the translation fb80b4a43f86acec… (all of the seat's roots in one cut). By AI agents, Wed Nov 11 2026. No macro, syntax, notation, axiom, sorry.
-/
import Derived.Test.YtjhmpobnoccobaaChecked
import GoSem.Claim
import GoSem.ClaimJoined
import GoSem.ClaimMapViews
import Derived.JoinedTies
import Derived.KernelRfl
namespace Go.Proofs.Ytjhmpobnoccobaa
/- THE CELL 'sum', in the pinned program and in every row, IS THE sha256 OF THE DUMP (.gsa) THAT YtjhmpobnoccobaaProg.lean LOADS. Nothing in Lean hashes anything: it is a label: what it is worth is what the hold of that sum in a sandbox is worth. -/
noncomputable def Try.pinned : Pinned := { name := "ytjhmpobnoccobaa", sum := "fb80b4a43f86acecd7bd09d806ceef5e8d64f84800c8aecb5cf55a7705f6824b", checked := Try.checked }
namespace Rows
def none {H : Type} : Left H := { results := [], args := [] }

/-- 'mapsheetslaw06.GlyphDecodes': WHATEVER THE INPUT: true; the input reads as it did. -/
def glyphDecodesSpec : ChangeSpec := { name := "glyphDecodes", fn := fun _ => fun
  | [d] => { results := [.lit (.bool true)], args := [d] }
  | _ => none }
def glyphDecodesRow : OpenClaim := { program := "ytjhmpobnoccobaa", sum := "fb80b4a43f86acecd7bd09d806ceef5e8d64f84800c8aecb5cf55a7705f6824b", func := "mapsheets/mapsheetslaw06.GlyphDecodes", spec := "glyphDecodes", unfollowed := true, recurses := true, apart := false }
def GlyphDecodesSaid : Prop := glyphDecodesRow.holds Try.pinned (OpenSpec.ofChange glyphDecodesSpec)

/-- ITS FALSE NEIGHBOUR: 'it returns false'. Refute it at one input. -/
def glyphDecodesWrong : ChangeSpec := { name := "glyphDecodes", fn := fun _ => fun
  | [d] => { results := [.lit (.bool false)], args := [d] }
  | _ => none }
def GlyphDecodesWrongFalsely : Prop := glyphDecodesRow.holds Try.pinned (OpenSpec.ofChange glyphDecodesWrong)

/-- 'mapsheetslaw06.GlyphEncodes': WHATEVER THE INPUT: true; the input reads as it did. -/
def glyphEncodesSpec : ChangeSpec := { name := "glyphEncodes", fn := fun _ => fun
  | [d] => { results := [.lit (.bool true)], args := [d] }
  | _ => none }
def glyphEncodesRow : OpenClaim := { program := "ytjhmpobnoccobaa", sum := "fb80b4a43f86acecd7bd09d806ceef5e8d64f84800c8aecb5cf55a7705f6824b", func := "mapsheets/mapsheetslaw06.GlyphEncodes", spec := "glyphEncodes", unfollowed := true, recurses := true, apart := false }
def GlyphEncodesSaid : Prop := glyphEncodesRow.holds Try.pinned (OpenSpec.ofChange glyphEncodesSpec)

/-- ITS FALSE NEIGHBOUR: 'it returns false'. Refute it at one input. -/
def glyphEncodesWrong : ChangeSpec := { name := "glyphEncodes", fn := fun _ => fun
  | [d] => { results := [.lit (.bool false)], args := [d] }
  | _ => none }
def GlyphEncodesWrongFalsely : Prop := glyphEncodesRow.holds Try.pinned (OpenSpec.ofChange glyphEncodesWrong)

/-- 'mapsheetslaw06.GlyphBack': WHATEVER THE INPUT: true; the input reads as it did. -/
def glyphBackSpec : ChangeSpec := { name := "glyphBack", fn := fun _ => fun
  | [d1, d2] => { results := [.lit (.bool true)], args := [d1, d2] }
  | _ => none }
def glyphBackRow : OpenClaim := { program := "ytjhmpobnoccobaa", sum := "fb80b4a43f86acecd7bd09d806ceef5e8d64f84800c8aecb5cf55a7705f6824b", func := "mapsheets/mapsheetslaw06.GlyphBack", spec := "glyphBack", unfollowed := true, recurses := true, apart := false }
def GlyphBackSaid : Prop := glyphBackRow.holds Try.pinned (OpenSpec.ofChange glyphBackSpec)

/-- ITS FALSE NEIGHBOUR: 'it returns false'. Refute it at one input. -/
def glyphBackWrong : ChangeSpec := { name := "glyphBack", fn := fun _ => fun
  | [d1, d2] => { results := [.lit (.bool false)], args := [d1, d2] }
  | _ => none }
def GlyphBackWrongFalsely : Prop := glyphBackRow.holds Try.pinned (OpenSpec.ofChange glyphBackWrong)

/-- 'mapsheetslaw06.GlyphTables': WHATEVER THE INPUT: true; the input reads as it did. -/
def glyphTablesSpec : ChangeSpec := { name := "glyphTables", fn := fun _ => fun
  | [d1, d2] => { results := [.lit (.bool true)], args := [d1, d2] }
  | _ => none }
def glyphTablesRow : OpenClaim := { program := "ytjhmpobnoccobaa", sum := "fb80b4a43f86acecd7bd09d806ceef5e8d64f84800c8aecb5cf55a7705f6824b", func := "mapsheets/mapsheetslaw06.GlyphTables", spec := "glyphTables", unfollowed := true, recurses := true, apart := false }
def GlyphTablesSaid : Prop := glyphTablesRow.holds Try.pinned (OpenSpec.ofChange glyphTablesSpec)

/-- ITS FALSE NEIGHBOUR: 'it returns false'. Refute it at one input. -/
def glyphTablesWrong : ChangeSpec := { name := "glyphTables", fn := fun _ => fun
  | [d1, d2] => { results := [.lit (.bool false)], args := [d1, d2] }
  | _ => none }
def GlyphTablesWrongFalsely : Prop := glyphTablesRow.holds Try.pinned (OpenSpec.ofChange glyphTablesWrong)

/-- 'mapsheetslaw06.GlyphFolds': WHATEVER THE INPUT: true; the input reads as it did. -/
def glyphFoldsSpec : ChangeSpec := { name := "glyphFolds", fn := fun _ => fun
  | [d] => { results := [.lit (.bool true)], args := [d] }
  | _ => none }
def glyphFoldsRow : OpenClaim := { program := "ytjhmpobnoccobaa", sum := "fb80b4a43f86acecd7bd09d806ceef5e8d64f84800c8aecb5cf55a7705f6824b", func := "mapsheets/mapsheetslaw06.GlyphFolds", spec := "glyphFolds", unfollowed := true, recurses := true, apart := false }
def GlyphFoldsSaid : Prop := glyphFoldsRow.holds Try.pinned (OpenSpec.ofChange glyphFoldsSpec)

/-- ITS FALSE NEIGHBOUR: 'it returns false'. Refute it at one input. -/
def glyphFoldsWrong : ChangeSpec := { name := "glyphFolds", fn := fun _ => fun
  | [d] => { results := [.lit (.bool false)], args := [d] }
  | _ => none }
def GlyphFoldsWrongFalsely : Prop := glyphFoldsRow.holds Try.pinned (OpenSpec.ofChange glyphFoldsWrong)

/-- 'mapsheetslaw06.GlyphWidths': WHATEVER THE INPUT: true; the input reads as it did. -/
def glyphWidthsSpec : ChangeSpec := { name := "glyphWidths", fn := fun _ => fun
  | [d1, d2] => { results := [.lit (.bool true)], args := [d1, d2] }
  | _ => none }
def glyphWidthsRow : OpenClaim := { program := "ytjhmpobnoccobaa", sum := "fb80b4a43f86acecd7bd09d806ceef5e8d64f84800c8aecb5cf55a7705f6824b", func := "mapsheets/mapsheetslaw06.GlyphWidths", spec := "glyphWidths", unfollowed := true, recurses := true, apart := false }
def GlyphWidthsSaid : Prop := glyphWidthsRow.holds Try.pinned (OpenSpec.ofChange glyphWidthsSpec)

/-- ITS FALSE NEIGHBOUR: 'it returns false'. Refute it at one input. -/
def glyphWidthsWrong : ChangeSpec := { name := "glyphWidths", fn := fun _ => fun
  | [d1, d2] => { results := [.lit (.bool false)], args := [d1, d2] }
  | _ => none }
def GlyphWidthsWrongFalsely : Prop := glyphWidthsRow.holds Try.pinned (OpenSpec.ofChange glyphWidthsWrong)

/-- 'mapsheetslaw06.GlyphOrders': WHATEVER THE INPUT: true; the input reads as it did. -/
def glyphOrdersSpec : ChangeSpec := { name := "glyphOrders", fn := fun _ => fun
  | [d] => { results := [.lit (.bool true)], args := [d] }
  | _ => none }
def glyphOrdersRow : OpenClaim := { program := "ytjhmpobnoccobaa", sum := "fb80b4a43f86acecd7bd09d806ceef5e8d64f84800c8aecb5cf55a7705f6824b", func := "mapsheets/mapsheetslaw06.GlyphOrders", spec := "glyphOrders", unfollowed := true, recurses := true, apart := false }
def GlyphOrdersSaid : Prop := glyphOrdersRow.holds Try.pinned (OpenSpec.ofChange glyphOrdersSpec)

/-- ITS FALSE NEIGHBOUR: 'it returns false'. Refute it at one input. -/
def glyphOrdersWrong : ChangeSpec := { name := "glyphOrders", fn := fun _ => fun
  | [d] => { results := [.lit (.bool false)], args := [d] }
  | _ => none }
def GlyphOrdersWrongFalsely : Prop := glyphOrdersRow.holds Try.pinned (OpenSpec.ofChange glyphOrdersWrong)

/-- 'mapsheetslaw06.GlyphMoves': WHATEVER THE INPUT: true; the input reads as it did. -/
def glyphMovesSpec : ChangeSpec := { name := "glyphMoves", fn := fun _ => fun
  | [d] => { results := [.lit (.bool true)], args := [d] }
  | _ => none }
def glyphMovesRow : OpenClaim := { program := "ytjhmpobnoccobaa", sum := "fb80b4a43f86acecd7bd09d806ceef5e8d64f84800c8aecb5cf55a7705f6824b", func := "mapsheets/mapsheetslaw06.GlyphMoves", spec := "glyphMoves", unfollowed := true, recurses := true, apart := false }
def GlyphMovesSaid : Prop := glyphMovesRow.holds Try.pinned (OpenSpec.ofChange glyphMovesSpec)

/-- ITS FALSE NEIGHBOUR: 'it returns false'. Refute it at one input. -/
def glyphMovesWrong : ChangeSpec := { name := "glyphMoves", fn := fun _ => fun
  | [d] => { results := [.lit (.bool false)], args := [d] }
  | _ => none }
def GlyphMovesWrongFalsely : Prop := glyphMovesRow.holds Try.pinned (OpenSpec.ofChange glyphMovesWrong)

/-- 'mapsheetslaw06.GlyphJoins': WHATEVER THE INPUT: true; the input reads as it did. -/
def glyphJoinsSpec : ChangeSpec := { name := "glyphJoins", fn := fun _ => fun
  | [d1, d2] => { results := [.lit (.bool true)], args := [d1, d2] }
  | _ => none }
def glyphJoinsRow : OpenClaim := { program := "ytjhmpobnoccobaa", sum := "fb80b4a43f86acecd7bd09d806ceef5e8d64f84800c8aecb5cf55a7705f6824b", func := "mapsheets/mapsheetslaw06.GlyphJoins", spec := "glyphJoins", unfollowed := true, recurses := true, apart := false }
def GlyphJoinsSaid : Prop := glyphJoinsRow.holds Try.pinned (OpenSpec.ofChange glyphJoinsSpec)

/-- ITS FALSE NEIGHBOUR: 'it returns false'. Refute it at one input. -/
def glyphJoinsWrong : ChangeSpec := { name := "glyphJoins", fn := fun _ => fun
  | [d1, d2] => { results := [.lit (.bool false)], args := [d1, d2] }
  | _ => none }
def GlyphJoinsWrongFalsely : Prop := glyphJoinsRow.holds Try.pinned (OpenSpec.ofChange glyphJoinsWrong)

/- THE SECOND FORM. 'bulk': how many values and letters a reading holds, each counted each time it is reached (what is shared counts as often as it is met; a slice's spare places count too). A statement '..UptoSaid' is the law's where the arguments, and the package variables that the reading takes, are together of bulk at most 1048576: NARROWER than '..Said'. Prove '..Said' where nothing that the law and all that it calls make is longer than what came in: it says more and counts as full. Else prove '..UptoSaid'. A law counts once. -/
mutual
def uptoBulk {H : Type} : DataW H → Nat
  | .lit (.string bytes) => bytes.length + 1
  | .lit _ => 1
  | .nil => 1
  | .ptr d => uptoBulk d + 1
  | .slice elems spare => uptoBulkAll elems + uptoBulkAll spare + 1
  | .agg parts => uptoBulkAll parts + 1
  | .iface _ d => uptoBulk d + 1
  | .map entries => uptoBulkEntries entries + 1
  | .held _ => 1
def uptoBulkAll {H : Type} : List (DataW H) → Nat
  | [] => 0
  | d :: r => uptoBulk d + uptoBulkAll r
def uptoBulkEntries {H : Type} : List (Lit × DataW H) → Nat
  | [] => 0
  | x :: r => uptoBulkEntry x + uptoBulkEntries r
def uptoBulkEntry {H : Type} : Lit × DataW H → Nat
  | (.string bytes, d) => bytes.length + uptoBulk d + 1
  | (_, d) => uptoBulk d + 1
 end
def uptoSmall : (H : Type) → List (DataW H) → Bool := fun _ ds => decide (uptoBulkAll ds ≤ 1048576)
def OpenSpec.upto (s : _root_.Go.ChangeSpec) : _root_.Go.OpenSpec := { _root_.Go.OpenSpec.ofChange s with cond := some uptoSmall }

/-- 'mapsheetslaw06.GlyphDecodes', WHERE WHAT IT READS IS OF BULK AT MOST 1048576: true; the input reads as it did. -/
def glyphDecodesUptoRow : OpenClaim := { program := "ytjhmpobnoccobaa", sum := "fb80b4a43f86acecd7bd09d806ceef5e8d64f84800c8aecb5cf55a7705f6824b", func := "mapsheets/mapsheetslaw06.GlyphDecodes", spec := "glyphDecodes", unfollowed := true, recurses := true, apart := false, narrowed := true }
def GlyphDecodesUptoSaid : Prop := glyphDecodesUptoRow.holds Try.pinned (OpenSpec.upto glyphDecodesSpec)

/-- 'mapsheetslaw06.GlyphEncodes', WHERE WHAT IT READS IS OF BULK AT MOST 1048576: true; the input reads as it did. -/
def glyphEncodesUptoRow : OpenClaim := { program := "ytjhmpobnoccobaa", sum := "fb80b4a43f86acecd7bd09d806ceef5e8d64f84800c8aecb5cf55a7705f6824b", func := "mapsheets/mapsheetslaw06.GlyphEncodes", spec := "glyphEncodes", unfollowed := true, recurses := true, apart := false, narrowed := true }
def GlyphEncodesUptoSaid : Prop := glyphEncodesUptoRow.holds Try.pinned (OpenSpec.upto glyphEncodesSpec)

/-- 'mapsheetslaw06.GlyphBack', WHERE WHAT IT READS IS OF BULK AT MOST 1048576: true; the input reads as it did. -/
def glyphBackUptoRow : OpenClaim := { program := "ytjhmpobnoccobaa", sum := "fb80b4a43f86acecd7bd09d806ceef5e8d64f84800c8aecb5cf55a7705f6824b", func := "mapsheets/mapsheetslaw06.GlyphBack", spec := "glyphBack", unfollowed := true, recurses := true, apart := false, narrowed := true }
def GlyphBackUptoSaid : Prop := glyphBackUptoRow.holds Try.pinned (OpenSpec.upto glyphBackSpec)

/-- 'mapsheetslaw06.GlyphTables', WHERE WHAT IT READS IS OF BULK AT MOST 1048576: true; the input reads as it did. -/
def glyphTablesUptoRow : OpenClaim := { program := "ytjhmpobnoccobaa", sum := "fb80b4a43f86acecd7bd09d806ceef5e8d64f84800c8aecb5cf55a7705f6824b", func := "mapsheets/mapsheetslaw06.GlyphTables", spec := "glyphTables", unfollowed := true, recurses := true, apart := false, narrowed := true }
def GlyphTablesUptoSaid : Prop := glyphTablesUptoRow.holds Try.pinned (OpenSpec.upto glyphTablesSpec)

/-- 'mapsheetslaw06.GlyphFolds', WHERE WHAT IT READS IS OF BULK AT MOST 1048576: true; the input reads as it did. -/
def glyphFoldsUptoRow : OpenClaim := { program := "ytjhmpobnoccobaa", sum := "fb80b4a43f86acecd7bd09d806ceef5e8d64f84800c8aecb5cf55a7705f6824b", func := "mapsheets/mapsheetslaw06.GlyphFolds", spec := "glyphFolds", unfollowed := true, recurses := true, apart := false, narrowed := true }
def GlyphFoldsUptoSaid : Prop := glyphFoldsUptoRow.holds Try.pinned (OpenSpec.upto glyphFoldsSpec)

/-- 'mapsheetslaw06.GlyphWidths', WHERE WHAT IT READS IS OF BULK AT MOST 1048576: true; the input reads as it did. -/
def glyphWidthsUptoRow : OpenClaim := { program := "ytjhmpobnoccobaa", sum := "fb80b4a43f86acecd7bd09d806ceef5e8d64f84800c8aecb5cf55a7705f6824b", func := "mapsheets/mapsheetslaw06.GlyphWidths", spec := "glyphWidths", unfollowed := true, recurses := true, apart := false, narrowed := true }
def GlyphWidthsUptoSaid : Prop := glyphWidthsUptoRow.holds Try.pinned (OpenSpec.upto glyphWidthsSpec)

/-- 'mapsheetslaw06.GlyphOrders', WHERE WHAT IT READS IS OF BULK AT MOST 1048576: true; the input reads as it did. -/
def glyphOrdersUptoRow : OpenClaim := { program := "ytjhmpobnoccobaa", sum := "fb80b4a43f86acecd7bd09d806ceef5e8d64f84800c8aecb5cf55a7705f6824b", func := "mapsheets/mapsheetslaw06.GlyphOrders", spec := "glyphOrders", unfollowed := true, recurses := true, apart := false, narrowed := true }
def GlyphOrdersUptoSaid : Prop := glyphOrdersUptoRow.holds Try.pinned (OpenSpec.upto glyphOrdersSpec)

/-- 'mapsheetslaw06.GlyphMoves', WHERE WHAT IT READS IS OF BULK AT MOST 1048576: true; the input reads as it did. -/
def glyphMovesUptoRow : OpenClaim := { program := "ytjhmpobnoccobaa", sum := "fb80b4a43f86acecd7bd09d806ceef5e8d64f84800c8aecb5cf55a7705f6824b", func := "mapsheets/mapsheetslaw06.GlyphMoves", spec := "glyphMoves", unfollowed := true, recurses := true, apart := false, narrowed := true }
def GlyphMovesUptoSaid : Prop := glyphMovesUptoRow.holds Try.pinned (OpenSpec.upto glyphMovesSpec)

/-- 'mapsheetslaw06.GlyphJoins', WHERE WHAT IT READS IS OF BULK AT MOST 1048576: true; the input reads as it did. -/
def glyphJoinsUptoRow : OpenClaim := { program := "ytjhmpobnoccobaa", sum := "fb80b4a43f86acecd7bd09d806ceef5e8d64f84800c8aecb5cf55a7705f6824b", func := "mapsheets/mapsheetslaw06.GlyphJoins", spec := "glyphJoins", unfollowed := true, recurses := true, apart := false, narrowed := true }
def GlyphJoinsUptoSaid : Prop := glyphJoinsUptoRow.holds Try.pinned (OpenSpec.upto glyphJoinsSpec)

end Rows
end Go.Proofs.Ytjhmpobnoccobaa
