/-
  No cell of these rows narrows 'for every input' (looked for: loops, veiled, ifaces, maps, wideKeys, modest, calm, conditions, laid).
  DERIVED. THE GIVEN ROWS OF THIS SEAT. 7 by the template 'for every input the law returns true; each argument reads behind the call as it read before'; 0 by the template 'total and deterministic' (their statements: YteinjjobeamijaaTotals.lean).
  GIVEN WITH THE SEED: the statements are not yours to turn. If you find one false, say at which input.
  Laid BY PROGRAM, IN A SANDBOX (cutbox-rows.mjs): the forced cells as the released guide's own fill.sh prints them over the translation 20fa406efb377541… (all of the seat's roots in one cut). By AI agents, Wed Nov 11 2026. No macro, syntax, notation, axiom, sorry.
-/
import Derived.Test.YteinjjobeamijaaChecked
import GoSem.Claim
import GoSem.ClaimJoined
import GoSem.ClaimMapViews
import Derived.JoinedTies
import Derived.KernelRfl
namespace Go.Proofs.Yteinjjobeamijaa
/- THE CELL 'sum', in the pinned program and in every row, IS THE sha256 OF THE DUMP (.gsa) THAT YteinjjobeamijaaProg.lean LOADS. Nothing in Lean hashes anything: it is a label: what it is worth is what the hold of that sum in a sandbox is worth. -/
noncomputable def Try.pinned : Pinned := { name := "yteinjjobeamijaa", sum := "20fa406efb37754162bd3aca550959f2750a41f2f82bd0afb99351cda4114414", checked := Try.checked }
namespace Rows
def none {H : Type} : Left H := { results := [], args := [] }

/-- 'mapsheetslaw40.SheetgridBoxes': WHATEVER THE INPUT: true; the input reads as it did. -/
def sheetgridBoxesSpec : ChangeSpec := { name := "sheetgridBoxes", fn := fun _ => fun
  | [d1, d2] => { results := [.lit (.bool true)], args := [d1, d2] }
  | _ => none }
def sheetgridBoxesRow : OpenClaim := { program := "yteinjjobeamijaa", sum := "20fa406efb37754162bd3aca550959f2750a41f2f82bd0afb99351cda4114414", func := "mapsheets/mapsheetslaw40.SheetgridBoxes", spec := "sheetgridBoxes", apart := false }
def SheetgridBoxesSaid : Prop := sheetgridBoxesRow.holds Try.pinned (OpenSpec.ofChange sheetgridBoxesSpec)

/-- ITS FALSE NEIGHBOUR: 'it returns false'. Refute it at one input. -/
def sheetgridBoxesWrong : ChangeSpec := { name := "sheetgridBoxes", fn := fun _ => fun
  | [d1, d2] => { results := [.lit (.bool false)], args := [d1, d2] }
  | _ => none }
def SheetgridBoxesWrongFalsely : Prop := sheetgridBoxesRow.holds Try.pinned (OpenSpec.ofChange sheetgridBoxesWrong)

/-- 'mapsheetslaw40.SheetgridFinds': WHATEVER THE INPUT: true; the input reads as it did. -/
def sheetgridFindsSpec : ChangeSpec := { name := "sheetgridFinds", fn := fun _ => fun
  | [d1, d2, d3] => { results := [.lit (.bool true)], args := [d1, d2, d3] }
  | _ => none }
def sheetgridFindsRow : OpenClaim := { program := "yteinjjobeamijaa", sum := "20fa406efb37754162bd3aca550959f2750a41f2f82bd0afb99351cda4114414", func := "mapsheets/mapsheetslaw40.SheetgridFinds", spec := "sheetgridFinds", apart := false }
def SheetgridFindsSaid : Prop := sheetgridFindsRow.holds Try.pinned (OpenSpec.ofChange sheetgridFindsSpec)

/-- ITS FALSE NEIGHBOUR: 'it returns false'. Refute it at one input. -/
def sheetgridFindsWrong : ChangeSpec := { name := "sheetgridFinds", fn := fun _ => fun
  | [d1, d2, d3] => { results := [.lit (.bool false)], args := [d1, d2, d3] }
  | _ => none }
def SheetgridFindsWrongFalsely : Prop := sheetgridFindsRow.holds Try.pinned (OpenSpec.ofChange sheetgridFindsWrong)

/-- 'mapsheetslaw40.SheetgridNeighbors': WHATEVER THE INPUT: true; the input reads as it did. -/
def sheetgridNeighborsSpec : ChangeSpec := { name := "sheetgridNeighbors", fn := fun _ => fun
  | [d1, d2, d3] => { results := [.lit (.bool true)], args := [d1, d2, d3] }
  | _ => none }
def sheetgridNeighborsRow : OpenClaim := { program := "yteinjjobeamijaa", sum := "20fa406efb37754162bd3aca550959f2750a41f2f82bd0afb99351cda4114414", func := "mapsheets/mapsheetslaw40.SheetgridNeighbors", spec := "sheetgridNeighbors", apart := false }
def SheetgridNeighborsSaid : Prop := sheetgridNeighborsRow.holds Try.pinned (OpenSpec.ofChange sheetgridNeighborsSpec)

/-- ITS FALSE NEIGHBOUR: 'it returns false'. Refute it at one input. -/
def sheetgridNeighborsWrong : ChangeSpec := { name := "sheetgridNeighbors", fn := fun _ => fun
  | [d1, d2, d3] => { results := [.lit (.bool false)], args := [d1, d2, d3] }
  | _ => none }
def SheetgridNeighborsWrongFalsely : Prop := sheetgridNeighborsRow.holds Try.pinned (OpenSpec.ofChange sheetgridNeighborsWrong)

/-- 'mapsheetslaw40.SheetgridNames': WHATEVER THE INPUT: true; the input reads as it did. -/
def sheetgridNamesSpec : ChangeSpec := { name := "sheetgridNames", fn := fun _ => fun
  | [d1, d2, d3] => { results := [.lit (.bool true)], args := [d1, d2, d3] }
  | _ => none }
def sheetgridNamesRow : OpenClaim := { program := "yteinjjobeamijaa", sum := "20fa406efb37754162bd3aca550959f2750a41f2f82bd0afb99351cda4114414", func := "mapsheets/mapsheetslaw40.SheetgridNames", spec := "sheetgridNames", apart := false }
def SheetgridNamesSaid : Prop := sheetgridNamesRow.holds Try.pinned (OpenSpec.ofChange sheetgridNamesSpec)

/-- ITS FALSE NEIGHBOUR: 'it returns false'. Refute it at one input. -/
def sheetgridNamesWrong : ChangeSpec := { name := "sheetgridNames", fn := fun _ => fun
  | [d1, d2, d3] => { results := [.lit (.bool false)], args := [d1, d2, d3] }
  | _ => none }
def SheetgridNamesWrongFalsely : Prop := sheetgridNamesRow.holds Try.pinned (OpenSpec.ofChange sheetgridNamesWrong)

/-- 'mapsheetslaw40.SheetgridCovers': WHATEVER THE INPUT: true; the input reads as it did. -/
def sheetgridCoversSpec : ChangeSpec := { name := "sheetgridCovers", fn := fun _ => fun
  | [d1, d2] => { results := [.lit (.bool true)], args := [d1, d2] }
  | _ => none }
def sheetgridCoversRow : OpenClaim := { program := "yteinjjobeamijaa", sum := "20fa406efb37754162bd3aca550959f2750a41f2f82bd0afb99351cda4114414", func := "mapsheets/mapsheetslaw40.SheetgridCovers", spec := "sheetgridCovers", apart := false }
def SheetgridCoversSaid : Prop := sheetgridCoversRow.holds Try.pinned (OpenSpec.ofChange sheetgridCoversSpec)

/-- ITS FALSE NEIGHBOUR: 'it returns false'. Refute it at one input. -/
def sheetgridCoversWrong : ChangeSpec := { name := "sheetgridCovers", fn := fun _ => fun
  | [d1, d2] => { results := [.lit (.bool false)], args := [d1, d2] }
  | _ => none }
def SheetgridCoversWrongFalsely : Prop := sheetgridCoversRow.holds Try.pinned (OpenSpec.ofChange sheetgridCoversWrong)

/-- 'mapsheetslaw40.SheetgridShares': WHATEVER THE INPUT: true; the input reads as it did. -/
def sheetgridSharesSpec : ChangeSpec := { name := "sheetgridShares", fn := fun _ => fun
  | [d1, d2, d3, d4] => { results := [.lit (.bool true)], args := [d1, d2, d3, d4] }
  | _ => none }
def sheetgridSharesRow : OpenClaim := { program := "yteinjjobeamijaa", sum := "20fa406efb37754162bd3aca550959f2750a41f2f82bd0afb99351cda4114414", func := "mapsheets/mapsheetslaw40.SheetgridShares", spec := "sheetgridShares", apart := false }
def SheetgridSharesSaid : Prop := sheetgridSharesRow.holds Try.pinned (OpenSpec.ofChange sheetgridSharesSpec)

/-- ITS FALSE NEIGHBOUR: 'it returns false'. Refute it at one input. -/
def sheetgridSharesWrong : ChangeSpec := { name := "sheetgridShares", fn := fun _ => fun
  | [d1, d2, d3, d4] => { results := [.lit (.bool false)], args := [d1, d2, d3, d4] }
  | _ => none }
def SheetgridSharesWrongFalsely : Prop := sheetgridSharesRow.holds Try.pinned (OpenSpec.ofChange sheetgridSharesWrong)

/-- 'mapsheetslaw40.SheetgridReads': WHATEVER THE INPUT: true; the input reads as it did. -/
def sheetgridReadsSpec : ChangeSpec := { name := "sheetgridReads", fn := fun _ => fun
  | [d1, d2, d3] => { results := [.lit (.bool true)], args := [d1, d2, d3] }
  | _ => none }
def sheetgridReadsRow : OpenClaim := { program := "yteinjjobeamijaa", sum := "20fa406efb37754162bd3aca550959f2750a41f2f82bd0afb99351cda4114414", func := "mapsheets/mapsheetslaw40.SheetgridReads", spec := "sheetgridReads", apart := false }
def SheetgridReadsSaid : Prop := sheetgridReadsRow.holds Try.pinned (OpenSpec.ofChange sheetgridReadsSpec)

/-- ITS FALSE NEIGHBOUR: 'it returns false'. Refute it at one input. -/
def sheetgridReadsWrong : ChangeSpec := { name := "sheetgridReads", fn := fun _ => fun
  | [d1, d2, d3] => { results := [.lit (.bool false)], args := [d1, d2, d3] }
  | _ => none }
def SheetgridReadsWrongFalsely : Prop := sheetgridReadsRow.holds Try.pinned (OpenSpec.ofChange sheetgridReadsWrong)

/- THE SECOND FORM. 'bulk': how many values and letters a reading holds, each counted each time it is reached (what is shared counts as often as it is met; a slice's spare places count too). A statement '..UptoSaid' is the law's where the arguments, and the package variables that the reading takes, are together of bulk at most 1048576: NARROWER than '..Said'. Prove '..Said' where nothing that the law and all that it calls make is longer than what came in: it says more and counts as full. Else prove '..UptoSaid'. A law counts once. -/
mutual
def uptoBulk {H : Type} : DataW H → Nat
  | .lit (.string bytes) => bytes.length + 1
  | .lit _ => 1
  | .nil => 1
  | .ptr d => uptoBulk d + 1
  | .slice elems spare => uptoBulkAll elems + uptoBulkAll spare + 1
  | .agg parts => uptoBulkAll parts + 1
  | .iface _ d => uptoBulk d + 1
  | .map entries => uptoBulkEntries entries + 1
  | .held _ => 1
def uptoBulkAll {H : Type} : List (DataW H) → Nat
  | [] => 0
  | d :: r => uptoBulk d + uptoBulkAll r
def uptoBulkEntries {H : Type} : List (Lit × DataW H) → Nat
  | [] => 0
  | x :: r => uptoBulkEntry x + uptoBulkEntries r
def uptoBulkEntry {H : Type} : Lit × DataW H → Nat
  | (.string bytes, d) => bytes.length + uptoBulk d + 1
  | (_, d) => uptoBulk d + 1
 end
def uptoSmall : (H : Type) → List (DataW H) → Bool := fun _ ds => decide (uptoBulkAll ds ≤ 1048576)
def OpenSpec.upto (s : _root_.Go.ChangeSpec) : _root_.Go.OpenSpec := { _root_.Go.OpenSpec.ofChange s with cond := some uptoSmall }

/-- 'mapsheetslaw40.SheetgridBoxes', WHERE WHAT IT READS IS OF BULK AT MOST 1048576: true; the input reads as it did. -/
def sheetgridBoxesUptoRow : OpenClaim := { program := "yteinjjobeamijaa", sum := "20fa406efb37754162bd3aca550959f2750a41f2f82bd0afb99351cda4114414", func := "mapsheets/mapsheetslaw40.SheetgridBoxes", spec := "sheetgridBoxes", apart := false, narrowed := true }
def SheetgridBoxesUptoSaid : Prop := sheetgridBoxesUptoRow.holds Try.pinned (OpenSpec.upto sheetgridBoxesSpec)

/-- 'mapsheetslaw40.SheetgridFinds', WHERE WHAT IT READS IS OF BULK AT MOST 1048576: true; the input reads as it did. -/
def sheetgridFindsUptoRow : OpenClaim := { program := "yteinjjobeamijaa", sum := "20fa406efb37754162bd3aca550959f2750a41f2f82bd0afb99351cda4114414", func := "mapsheets/mapsheetslaw40.SheetgridFinds", spec := "sheetgridFinds", apart := false, narrowed := true }
def SheetgridFindsUptoSaid : Prop := sheetgridFindsUptoRow.holds Try.pinned (OpenSpec.upto sheetgridFindsSpec)

/-- 'mapsheetslaw40.SheetgridNeighbors', WHERE WHAT IT READS IS OF BULK AT MOST 1048576: true; the input reads as it did. -/
def sheetgridNeighborsUptoRow : OpenClaim := { program := "yteinjjobeamijaa", sum := "20fa406efb37754162bd3aca550959f2750a41f2f82bd0afb99351cda4114414", func := "mapsheets/mapsheetslaw40.SheetgridNeighbors", spec := "sheetgridNeighbors", apart := false, narrowed := true }
def SheetgridNeighborsUptoSaid : Prop := sheetgridNeighborsUptoRow.holds Try.pinned (OpenSpec.upto sheetgridNeighborsSpec)

/-- 'mapsheetslaw40.SheetgridNames', WHERE WHAT IT READS IS OF BULK AT MOST 1048576: true; the input reads as it did. -/
def sheetgridNamesUptoRow : OpenClaim := { program := "yteinjjobeamijaa", sum := "20fa406efb37754162bd3aca550959f2750a41f2f82bd0afb99351cda4114414", func := "mapsheets/mapsheetslaw40.SheetgridNames", spec := "sheetgridNames", apart := false, narrowed := true }
def SheetgridNamesUptoSaid : Prop := sheetgridNamesUptoRow.holds Try.pinned (OpenSpec.upto sheetgridNamesSpec)

/-- 'mapsheetslaw40.SheetgridCovers', WHERE WHAT IT READS IS OF BULK AT MOST 1048576: true; the input reads as it did. -/
def sheetgridCoversUptoRow : OpenClaim := { program := "yteinjjobeamijaa", sum := "20fa406efb37754162bd3aca550959f2750a41f2f82bd0afb99351cda4114414", func := "mapsheets/mapsheetslaw40.SheetgridCovers", spec := "sheetgridCovers", apart := false, narrowed := true }
def SheetgridCoversUptoSaid : Prop := sheetgridCoversUptoRow.holds Try.pinned (OpenSpec.upto sheetgridCoversSpec)

/-- 'mapsheetslaw40.SheetgridShares', WHERE WHAT IT READS IS OF BULK AT MOST 1048576: true; the input reads as it did. -/
def sheetgridSharesUptoRow : OpenClaim := { program := "yteinjjobeamijaa", sum := "20fa406efb37754162bd3aca550959f2750a41f2f82bd0afb99351cda4114414", func := "mapsheets/mapsheetslaw40.SheetgridShares", spec := "sheetgridShares", apart := false, narrowed := true }
def SheetgridSharesUptoSaid : Prop := sheetgridSharesUptoRow.holds Try.pinned (OpenSpec.upto sheetgridSharesSpec)

/-- 'mapsheetslaw40.SheetgridReads', WHERE WHAT IT READS IS OF BULK AT MOST 1048576: true; the input reads as it did. -/
def sheetgridReadsUptoRow : OpenClaim := { program := "yteinjjobeamijaa", sum := "20fa406efb37754162bd3aca550959f2750a41f2f82bd0afb99351cda4114414", func := "mapsheets/mapsheetslaw40.SheetgridReads", spec := "sheetgridReads", apart := false, narrowed := true }
def SheetgridReadsUptoSaid : Prop := sheetgridReadsUptoRow.holds Try.pinned (OpenSpec.upto sheetgridReadsSpec)

end Rows
end Go.Proofs.Yteinjjobeamijaa
