/-
  No cell of these rows narrows 'for every input' (looked for: loops, veiled, ifaces, maps, wideKeys, modest, calm, conditions, laid).
  DERIVED. THE GIVEN ROWS OF THIS SEAT. 7 by the template 'for every input the law returns true; each argument reads behind the call as it read before'; 0 by the template 'total and deterministic' (their statements: YtijkaeonihgcfaaTotals.lean).
  GIVEN WITH THE SEED: the statements are not yours to turn. If you find one false, say at which input.
  Laid BY PROGRAM, IN A SANDBOX (cutbox-rows.mjs): the forced cells as the released guide's own fill.sh prints them over the translation 6db1cf6d6bd2793a… (all of the seat's roots in one cut). By AI agents, Wed Nov 11 2026. No macro, syntax, notation, axiom, sorry.
-/
import Derived.Test.YtijkaeonihgcfaaChecked
import GoSem.Claim
import GoSem.ClaimJoined
import GoSem.ClaimMapViews
import Derived.JoinedTies
import Derived.KernelRfl
namespace Go.Proofs.Ytijkaeonihgcfaa
/- THE CELL 'sum', in the pinned program and in every row, IS THE sha256 OF THE DUMP (.gsa) THAT YtijkaeonihgcfaaProg.lean LOADS. Nothing in Lean hashes anything: it is a label: what it is worth is what the hold of that sum in a sandbox is worth. -/
noncomputable def Try.pinned : Pinned := { name := "ytijkaeonihgcfaa", sum := "6db1cf6d6bd2793a5a15b7939d2dca05f882c0da8ec0bb7b0241c1b5427301bd", checked := Try.checked }
namespace Rows
def none {H : Type} : Left H := { results := [], args := [] }

/-- 'mapsheetslaw07.NameChecks': WHATEVER THE INPUT: true; the input reads as it did. -/
def nameChecksSpec : ChangeSpec := { name := "nameChecks", fn := fun _ => fun
  | [d] => { results := [.lit (.bool true)], args := [d] }
  | _ => none }
def nameChecksRow : OpenClaim := { program := "ytijkaeonihgcfaa", sum := "6db1cf6d6bd2793a5a15b7939d2dca05f882c0da8ec0bb7b0241c1b5427301bd", func := "mapsheets/mapsheetslaw07.NameChecks", spec := "nameChecks", inPlace := ["internal/bytealg.IndexByteString", "internal/bytealg.IndexString", "internal/bytealg.abigen_runtime_cmpstring"], named := ["internal/bytealg.MaxLen"], apart := false }
def NameChecksSaid : Prop := nameChecksRow.holds Try.pinned (OpenSpec.ofChange nameChecksSpec)

/-- ITS FALSE NEIGHBOUR: 'it returns false'. Refute it at one input. -/
def nameChecksWrong : ChangeSpec := { name := "nameChecks", fn := fun _ => fun
  | [d] => { results := [.lit (.bool false)], args := [d] }
  | _ => none }
def NameChecksWrongFalsely : Prop := nameChecksRow.holds Try.pinned (OpenSpec.ofChange nameChecksWrong)

/-- 'mapsheetslaw07.NameCompares': WHATEVER THE INPUT: true; the input reads as it did. -/
def nameComparesSpec : ChangeSpec := { name := "nameCompares", fn := fun _ => fun
  | [d1, d2] => { results := [.lit (.bool true)], args := [d1, d2] }
  | _ => none }
def nameComparesRow : OpenClaim := { program := "ytijkaeonihgcfaa", sum := "6db1cf6d6bd2793a5a15b7939d2dca05f882c0da8ec0bb7b0241c1b5427301bd", func := "mapsheets/mapsheetslaw07.NameCompares", spec := "nameCompares", inPlace := ["internal/bytealg.IndexByteString", "internal/bytealg.IndexString", "internal/bytealg.abigen_runtime_cmpstring"], named := ["internal/bytealg.MaxLen"], apart := false }
def NameComparesSaid : Prop := nameComparesRow.holds Try.pinned (OpenSpec.ofChange nameComparesSpec)

/-- ITS FALSE NEIGHBOUR: 'it returns false'. Refute it at one input. -/
def nameComparesWrong : ChangeSpec := { name := "nameCompares", fn := fun _ => fun
  | [d1, d2] => { results := [.lit (.bool false)], args := [d1, d2] }
  | _ => none }
def NameComparesWrongFalsely : Prop := nameComparesRow.holds Try.pinned (OpenSpec.ofChange nameComparesWrong)

/-- 'mapsheetslaw07.NameOrders': WHATEVER THE INPUT: true; the input reads as it did. -/
def nameOrdersSpec : ChangeSpec := { name := "nameOrders", fn := fun _ => fun
  | [d1, d2, d3] => { results := [.lit (.bool true)], args := [d1, d2, d3] }
  | _ => none }
def nameOrdersRow : OpenClaim := { program := "ytijkaeonihgcfaa", sum := "6db1cf6d6bd2793a5a15b7939d2dca05f882c0da8ec0bb7b0241c1b5427301bd", func := "mapsheets/mapsheetslaw07.NameOrders", spec := "nameOrders", inPlace := ["internal/bytealg.IndexByteString", "internal/bytealg.IndexString", "internal/bytealg.abigen_runtime_cmpstring"], named := ["internal/bytealg.MaxLen"], apart := false }
def NameOrdersSaid : Prop := nameOrdersRow.holds Try.pinned (OpenSpec.ofChange nameOrdersSpec)

/-- ITS FALSE NEIGHBOUR: 'it returns false'. Refute it at one input. -/
def nameOrdersWrong : ChangeSpec := { name := "nameOrders", fn := fun _ => fun
  | [d1, d2, d3] => { results := [.lit (.bool false)], args := [d1, d2, d3] }
  | _ => none }
def NameOrdersWrongFalsely : Prop := nameOrdersRow.holds Try.pinned (OpenSpec.ofChange nameOrdersWrong)

/-- 'mapsheetslaw07.NameRuns': WHATEVER THE INPUT: true; the input reads as it did. -/
def nameRunsSpec : ChangeSpec := { name := "nameRuns", fn := fun _ => fun
  | [d1, d2, d3, d4] => { results := [.lit (.bool true)], args := [d1, d2, d3, d4] }
  | _ => none }
def nameRunsRow : OpenClaim := { program := "ytijkaeonihgcfaa", sum := "6db1cf6d6bd2793a5a15b7939d2dca05f882c0da8ec0bb7b0241c1b5427301bd", func := "mapsheets/mapsheetslaw07.NameRuns", spec := "nameRuns", inPlace := ["internal/bytealg.IndexByteString", "internal/bytealg.IndexString", "internal/bytealg.abigen_runtime_cmpstring"], named := ["internal/bytealg.MaxLen"], apart := false }
def NameRunsSaid : Prop := nameRunsRow.holds Try.pinned (OpenSpec.ofChange nameRunsSpec)

/-- ITS FALSE NEIGHBOUR: 'it returns false'. Refute it at one input. -/
def nameRunsWrong : ChangeSpec := { name := "nameRuns", fn := fun _ => fun
  | [d1, d2, d3, d4] => { results := [.lit (.bool false)], args := [d1, d2, d3, d4] }
  | _ => none }
def NameRunsWrongFalsely : Prop := nameRunsRow.holds Try.pinned (OpenSpec.ofChange nameRunsWrong)

/-- 'mapsheetslaw07.NameWidths': WHATEVER THE INPUT: true; the input reads as it did. -/
def nameWidthsSpec : ChangeSpec := { name := "nameWidths", fn := fun _ => fun
  | [d1, d2] => { results := [.lit (.bool true)], args := [d1, d2] }
  | _ => none }
def nameWidthsRow : OpenClaim := { program := "ytijkaeonihgcfaa", sum := "6db1cf6d6bd2793a5a15b7939d2dca05f882c0da8ec0bb7b0241c1b5427301bd", func := "mapsheets/mapsheetslaw07.NameWidths", spec := "nameWidths", inPlace := ["internal/bytealg.IndexByteString", "internal/bytealg.IndexString", "internal/bytealg.abigen_runtime_cmpstring"], named := ["internal/bytealg.MaxLen"], apart := false }
def NameWidthsSaid : Prop := nameWidthsRow.holds Try.pinned (OpenSpec.ofChange nameWidthsSpec)

/-- ITS FALSE NEIGHBOUR: 'it returns false'. Refute it at one input. -/
def nameWidthsWrong : ChangeSpec := { name := "nameWidths", fn := fun _ => fun
  | [d1, d2] => { results := [.lit (.bool false)], args := [d1, d2] }
  | _ => none }
def NameWidthsWrongFalsely : Prop := nameWidthsRow.holds Try.pinned (OpenSpec.ofChange nameWidthsWrong)

/-- 'mapsheetslaw07.NameFolds': WHATEVER THE INPUT: true; the input reads as it did. -/
def nameFoldsSpec : ChangeSpec := { name := "nameFolds", fn := fun _ => fun
  | [d] => { results := [.lit (.bool true)], args := [d] }
  | _ => none }
def nameFoldsRow : OpenClaim := { program := "ytijkaeonihgcfaa", sum := "6db1cf6d6bd2793a5a15b7939d2dca05f882c0da8ec0bb7b0241c1b5427301bd", func := "mapsheets/mapsheetslaw07.NameFolds", spec := "nameFolds", inPlace := ["internal/bytealg.IndexByteString", "internal/bytealg.IndexString", "internal/bytealg.abigen_runtime_cmpstring"], named := ["internal/bytealg.MaxLen"], apart := false }
def NameFoldsSaid : Prop := nameFoldsRow.holds Try.pinned (OpenSpec.ofChange nameFoldsSpec)

/-- ITS FALSE NEIGHBOUR: 'it returns false'. Refute it at one input. -/
def nameFoldsWrong : ChangeSpec := { name := "nameFolds", fn := fun _ => fun
  | [d] => { results := [.lit (.bool false)], args := [d] }
  | _ => none }
def NameFoldsWrongFalsely : Prop := nameFoldsRow.holds Try.pinned (OpenSpec.ofChange nameFoldsWrong)

/-- 'mapsheetslaw07.NameSpells': WHATEVER THE INPUT: true; the input reads as it did. -/
def nameSpellsSpec : ChangeSpec := { name := "nameSpells", fn := fun _ => fun
  | [d1, d2] => { results := [.lit (.bool true)], args := [d1, d2] }
  | _ => none }
def nameSpellsRow : OpenClaim := { program := "ytijkaeonihgcfaa", sum := "6db1cf6d6bd2793a5a15b7939d2dca05f882c0da8ec0bb7b0241c1b5427301bd", func := "mapsheets/mapsheetslaw07.NameSpells", spec := "nameSpells", inPlace := ["internal/bytealg.IndexByteString", "internal/bytealg.IndexString", "internal/bytealg.abigen_runtime_cmpstring"], named := ["internal/bytealg.MaxLen"], apart := false }
def NameSpellsSaid : Prop := nameSpellsRow.holds Try.pinned (OpenSpec.ofChange nameSpellsSpec)

/-- ITS FALSE NEIGHBOUR: 'it returns false'. Refute it at one input. -/
def nameSpellsWrong : ChangeSpec := { name := "nameSpells", fn := fun _ => fun
  | [d1, d2] => { results := [.lit (.bool false)], args := [d1, d2] }
  | _ => none }
def NameSpellsWrongFalsely : Prop := nameSpellsRow.holds Try.pinned (OpenSpec.ofChange nameSpellsWrong)

/- THE SECOND FORM. 'bulk': how many values and letters a reading holds, each counted each time it is reached (what is shared counts as often as it is met; a slice's spare places count too). A statement '..UptoSaid' is the law's where the arguments, and the package variables that the reading takes, are together of bulk at most 1048576: NARROWER than '..Said'. Prove '..Said' where nothing that the law and all that it calls make is longer than what came in: it says more and counts as full. Else prove '..UptoSaid'. A law counts once. -/
mutual
def uptoBulk {H : Type} : DataW H → Nat
  | .lit (.string bytes) => bytes.length + 1
  | .lit _ => 1
  | .nil => 1
  | .ptr d => uptoBulk d + 1
  | .slice elems spare => uptoBulkAll elems + uptoBulkAll spare + 1
  | .agg parts => uptoBulkAll parts + 1
  | .iface _ d => uptoBulk d + 1
  | .map entries => uptoBulkEntries entries + 1
  | .held _ => 1
def uptoBulkAll {H : Type} : List (DataW H) → Nat
  | [] => 0
  | d :: r => uptoBulk d + uptoBulkAll r
def uptoBulkEntries {H : Type} : List (Lit × DataW H) → Nat
  | [] => 0
  | x :: r => uptoBulkEntry x + uptoBulkEntries r
def uptoBulkEntry {H : Type} : Lit × DataW H → Nat
  | (.string bytes, d) => bytes.length + uptoBulk d + 1
  | (_, d) => uptoBulk d + 1
 end
def uptoSmall : (H : Type) → List (DataW H) → Bool := fun _ ds => decide (uptoBulkAll ds ≤ 1048576)
def OpenSpec.upto (s : _root_.Go.ChangeSpec) : _root_.Go.OpenSpec := { _root_.Go.OpenSpec.ofChange s with cond := some uptoSmall }

/-- 'mapsheetslaw07.NameChecks', WHERE WHAT IT READS IS OF BULK AT MOST 1048576: true; the input reads as it did. -/
def nameChecksUptoRow : OpenClaim := { program := "ytijkaeonihgcfaa", sum := "6db1cf6d6bd2793a5a15b7939d2dca05f882c0da8ec0bb7b0241c1b5427301bd", func := "mapsheets/mapsheetslaw07.NameChecks", spec := "nameChecks", inPlace := ["internal/bytealg.IndexByteString", "internal/bytealg.IndexString", "internal/bytealg.abigen_runtime_cmpstring"], named := ["internal/bytealg.MaxLen"], apart := false, narrowed := true }
def NameChecksUptoSaid : Prop := nameChecksUptoRow.holds Try.pinned (OpenSpec.upto nameChecksSpec)

/-- 'mapsheetslaw07.NameCompares', WHERE WHAT IT READS IS OF BULK AT MOST 1048576: true; the input reads as it did. -/
def nameComparesUptoRow : OpenClaim := { program := "ytijkaeonihgcfaa", sum := "6db1cf6d6bd2793a5a15b7939d2dca05f882c0da8ec0bb7b0241c1b5427301bd", func := "mapsheets/mapsheetslaw07.NameCompares", spec := "nameCompares", inPlace := ["internal/bytealg.IndexByteString", "internal/bytealg.IndexString", "internal/bytealg.abigen_runtime_cmpstring"], named := ["internal/bytealg.MaxLen"], apart := false, narrowed := true }
def NameComparesUptoSaid : Prop := nameComparesUptoRow.holds Try.pinned (OpenSpec.upto nameComparesSpec)

/-- 'mapsheetslaw07.NameOrders', WHERE WHAT IT READS IS OF BULK AT MOST 1048576: true; the input reads as it did. -/
def nameOrdersUptoRow : OpenClaim := { program := "ytijkaeonihgcfaa", sum := "6db1cf6d6bd2793a5a15b7939d2dca05f882c0da8ec0bb7b0241c1b5427301bd", func := "mapsheets/mapsheetslaw07.NameOrders", spec := "nameOrders", inPlace := ["internal/bytealg.IndexByteString", "internal/bytealg.IndexString", "internal/bytealg.abigen_runtime_cmpstring"], named := ["internal/bytealg.MaxLen"], apart := false, narrowed := true }
def NameOrdersUptoSaid : Prop := nameOrdersUptoRow.holds Try.pinned (OpenSpec.upto nameOrdersSpec)

/-- 'mapsheetslaw07.NameRuns', WHERE WHAT IT READS IS OF BULK AT MOST 1048576: true; the input reads as it did. -/
def nameRunsUptoRow : OpenClaim := { program := "ytijkaeonihgcfaa", sum := "6db1cf6d6bd2793a5a15b7939d2dca05f882c0da8ec0bb7b0241c1b5427301bd", func := "mapsheets/mapsheetslaw07.NameRuns", spec := "nameRuns", inPlace := ["internal/bytealg.IndexByteString", "internal/bytealg.IndexString", "internal/bytealg.abigen_runtime_cmpstring"], named := ["internal/bytealg.MaxLen"], apart := false, narrowed := true }
def NameRunsUptoSaid : Prop := nameRunsUptoRow.holds Try.pinned (OpenSpec.upto nameRunsSpec)

/-- 'mapsheetslaw07.NameWidths', WHERE WHAT IT READS IS OF BULK AT MOST 1048576: true; the input reads as it did. -/
def nameWidthsUptoRow : OpenClaim := { program := "ytijkaeonihgcfaa", sum := "6db1cf6d6bd2793a5a15b7939d2dca05f882c0da8ec0bb7b0241c1b5427301bd", func := "mapsheets/mapsheetslaw07.NameWidths", spec := "nameWidths", inPlace := ["internal/bytealg.IndexByteString", "internal/bytealg.IndexString", "internal/bytealg.abigen_runtime_cmpstring"], named := ["internal/bytealg.MaxLen"], apart := false, narrowed := true }
def NameWidthsUptoSaid : Prop := nameWidthsUptoRow.holds Try.pinned (OpenSpec.upto nameWidthsSpec)

/-- 'mapsheetslaw07.NameFolds', WHERE WHAT IT READS IS OF BULK AT MOST 1048576: true; the input reads as it did. -/
def nameFoldsUptoRow : OpenClaim := { program := "ytijkaeonihgcfaa", sum := "6db1cf6d6bd2793a5a15b7939d2dca05f882c0da8ec0bb7b0241c1b5427301bd", func := "mapsheets/mapsheetslaw07.NameFolds", spec := "nameFolds", inPlace := ["internal/bytealg.IndexByteString", "internal/bytealg.IndexString", "internal/bytealg.abigen_runtime_cmpstring"], named := ["internal/bytealg.MaxLen"], apart := false, narrowed := true }
def NameFoldsUptoSaid : Prop := nameFoldsUptoRow.holds Try.pinned (OpenSpec.upto nameFoldsSpec)

/-- 'mapsheetslaw07.NameSpells', WHERE WHAT IT READS IS OF BULK AT MOST 1048576: true; the input reads as it did. -/
def nameSpellsUptoRow : OpenClaim := { program := "ytijkaeonihgcfaa", sum := "6db1cf6d6bd2793a5a15b7939d2dca05f882c0da8ec0bb7b0241c1b5427301bd", func := "mapsheets/mapsheetslaw07.NameSpells", spec := "nameSpells", inPlace := ["internal/bytealg.IndexByteString", "internal/bytealg.IndexString", "internal/bytealg.abigen_runtime_cmpstring"], named := ["internal/bytealg.MaxLen"], apart := false, narrowed := true }
def NameSpellsUptoSaid : Prop := nameSpellsUptoRow.holds Try.pinned (OpenSpec.upto nameSpellsSpec)

end Rows
end Go.Proofs.Ytijkaeonihgcfaa
