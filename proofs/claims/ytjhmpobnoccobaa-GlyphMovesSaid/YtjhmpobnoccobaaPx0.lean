-- Written by wip/tools/xprint.py (this session's program, over the kit's print.py) for this seat.
import Derived.Test.YtjhmpobnoccobaaProg
import Derived.Below
import Derived.Deep.Draws
import Derived.Deep.AppendLies
import Derived.Maps.AppendAt
import Derived.OwnWalk
import Derived.Laws.BytesArg
import Derived.Laws.MakeOwn
import Derived.Laws.OwnMore
import Derived.Deep.OwnRows
import Derived.Tactics
import Derived.Lib.ConvBytes
import Derived.Laws.Slices
import Derived.WalkKit
import Derived.KernelRfl
import Derived.RowKit3
import Derived.Deep.LoopGhost
import Derived.Deep.QuietTactic
import Derived.BigQuiet
import Derived.WideLaws
import Derived.Deep.DeepCutAuto
import Derived.Deep.CutBlock
import Derived.Deep.RegionHeld3
import Derived.Laws.Rows
import Derived.Lib.AppendStr
import Derived.ArgAppend
import Derived.Laws.IdiomCopy
import Derived.OrdersHeld
import Derived.Laws.BitsLemmas
import Derived.RowKit
import Derived.Handy
import Derived.Lib.Strings
import Derived.Lib.Slices
import Derived.Lib.Small
import Derived.Lib.Walk
import Derived.Lib.BitFns
import Derived.WalkMore
import Derived.ScopeJumps
import Derived.Test.YtjhmpobnoccobaaV1
import Derived.Test.YtjhmpobnoccobaaShelf
import Derived.Shelf.Spec.SlicesGrow
import Derived.Test.YtjhmpobnoccobaaWWords
import Derived.Test.YtjhmpobnoccobaaWLast
import Derived.Test.YtjhmpobnoccobaaWTab
import Derived.Test.YtjhmpobnoccobaaWFour
import Derived.Test.YtjhmpobnoccobaaWQPut
import Derived.Test.YtjhmpobnoccobaaWApart
import Derived.Test.YtjhmpobnoccobaaWArr
import Derived.Test.YtjhmpobnoccobaaWZeros
import Derived.Test.YtjhmpobnoccobaaWFoot
import Derived.Test.YtjhmpobnoccobaaWKept
import Derived.Test.YtjhmpobnoccobaaWShare
import Derived.Test.YtjhmpobnoccobaaWN
import Derived.Test.YtjhmpobnoccobaaWFootNe
import Derived.Test.YtjhmpobnoccobaaWAt
import Derived.Test.YtjhmpobnoccobaaWEqStruct
import Derived.Test.YtjhmpobnoccobaaWRepsOne
import Derived.Test.YtjhmpobnoccobaaWInv
import Derived.Test.YtjhmpobnoccobaaWInvWords
import Derived.Test.YtjhmpobnoccobaaWGuard
import Derived.Test.YtjhmpobnoccobaaWNEv
import Derived.Test.YtjhmpobnoccobaaWMore
namespace Go.Proofs.Ytjhmpobnoccobaa.P
open Go.RowKit Go.Proofs.YtjhmpobnoccobaaW.PrintWords Go.Proofs.YtjhmpobnoccobaaW.PrintLast Go.Proofs.YtjhmpobnoccobaaW.PrintMore
attribute [local go_sem] max2_int min2_int max_two min_two max_three min_three max_four min_four   -- for this text's walks alone
set_option linter.unusedVariables false
set_option linter.unusedSimpArgs false



def errW : Option Int → Value
  | none => .nilIface
  | some c => .iface 0 (.int .i64 c)
theorem errW_none : errW none = .nilIface := rfl
theorem errW_some (c : Int) : errW (some c) = .iface 0 (.int .i64 c) := rfl

theorem info3 : (Try.prog.info? 3).map (fun i => (i.zero, i.size, i.bytes)) = some (some (.int .i64 0), 1, 8) := by kernel_rfl
theorem info4 : (Try.prog.info? 4).map (fun i => (i.zero, i.size, i.bytes)) = some (some (.bool false), 1, 1) := by kernel_rfl
theorem info5 : (Try.prog.info? 5).map (fun i => (i.zero, i.size, i.bytes)) = some (some (.int .u8 0), 1, 1) := by kernel_rfl
theorem info21 : (Try.prog.info? 21).map (fun i => (i.zero, i.size, i.bytes)) = some (some (.int .i32 0), 1, 4) := by kernel_rfl
-- the values' own types

end Go.Proofs.Ytjhmpobnoccobaa.P
