-- Written by wip/tools/xprint.py (this session's program, over the kit's print.py) for this seat.
import Derived.Test.YteinjjobeamijaaProg
import Derived.Below
import Derived.Deep.Draws
import Derived.Deep.AppendLies
import Derived.Maps.AppendAt
import Derived.OwnWalk
import Derived.Laws.BytesArg
import Derived.Laws.MakeOwn
import Derived.Laws.OwnMore
import Derived.Deep.OwnRows
import Derived.Tactics
import Derived.Lib.ConvBytes
import Derived.Laws.Slices
import Derived.WalkKit
import Derived.KernelRfl
import Derived.RowKit3
import Derived.Deep.LoopGhost
import Derived.Deep.QuietTactic
import Derived.BigQuiet
import Derived.WideLaws
import Derived.Deep.DeepCutAuto
import Derived.Deep.CutBlock
import Derived.Deep.RegionHeld3
import Derived.Laws.Rows
import Derived.Lib.AppendStr
import Derived.ArgAppend
import Derived.Laws.IdiomCopy
import Derived.OrdersHeld
import Derived.Laws.BitsLemmas
import Derived.RowKit
import Derived.Test.YteinjjobeamijaaWWords
import Derived.Test.YteinjjobeamijaaWLast
import Derived.Test.YteinjjobeamijaaWTab
import Derived.Test.YteinjjobeamijaaWFour
import Derived.Test.YteinjjobeamijaaWQPut
import Derived.Test.YteinjjobeamijaaWApart
import Derived.Test.YteinjjobeamijaaWArr
import Derived.Test.YteinjjobeamijaaWZeros
import Derived.Test.YteinjjobeamijaaWFoot
import Derived.Test.YteinjjobeamijaaWKept
import Derived.Test.YteinjjobeamijaaWShare
import Derived.Test.YteinjjobeamijaaWN
import Derived.Test.YteinjjobeamijaaWFootNe
import Derived.Test.YteinjjobeamijaaWAt
import Derived.Test.YteinjjobeamijaaWEqStruct
import Derived.Test.YteinjjobeamijaaWRepsOne
import Derived.Test.YteinjjobeamijaaWInv
import Derived.Test.YteinjjobeamijaaWInvWords
import Derived.Test.YteinjjobeamijaaWGuard
import Derived.Test.YteinjjobeamijaaWNEv
import Derived.Test.YteinjjobeamijaaWMore
namespace Go.Proofs.Yteinjjobeamijaa.P
open Go.RowKit Go.Proofs.YteinjjobeamijaaW.PrintWords Go.Proofs.YteinjjobeamijaaW.PrintLast Go.Proofs.YteinjjobeamijaaW.PrintMore
attribute [local go_sem] max2_int min2_int max_two min_two max_three min_three max_four min_four   -- for this text's walks alone
set_option linter.unusedVariables false
set_option linter.unusedSimpArgs false



def errW : Option Int → Value
  | none => .nilIface
  | some c => .iface 0 (.int .i64 c)
theorem errW_none : errW none = .nilIface := rfl
theorem errW_some (c : Int) : errW (some c) = .iface 0 (.int .i64 c) := rfl

theorem info3 : (Try.prog.info? 3).map (fun i => (i.zero, i.size, i.bytes)) = some (some (.int .i64 0), 1, 8) := by kernel_rfl
theorem info5 : (Try.prog.info? 5).map (fun i => (i.zero, i.size, i.bytes)) = some (some (.int .u8 0), 1, 1) := by kernel_rfl
-- the values' own types

end Go.Proofs.Yteinjjobeamijaa.P
