-- Written by wip/tools/xprint.py (this session's program, over the kit's print.py) for this seat.
import Derived.Test.YtaehaehgngafnaaProg
import Derived.Below
import Derived.Deep.Draws
import Derived.Deep.AppendLies
import Derived.Maps.AppendAt
import Derived.OwnWalk
import Derived.Laws.BytesArg
import Derived.Laws.MakeOwn
import Derived.Laws.OwnMore
import Derived.Deep.OwnRows
import Derived.Tactics
import Derived.Lib.ConvBytes
import Derived.Laws.Slices
import Derived.WalkKit
import Derived.KernelRfl
import Derived.RowKit3
import Derived.Deep.LoopGhost
import Derived.Deep.QuietTactic
import Derived.BigQuiet
import Derived.WideLaws
import Derived.Deep.DeepCutAuto
import Derived.Deep.CutBlock
import Derived.Deep.RegionHeld3
import Derived.Laws.Rows
import Derived.Lib.AppendStr
import Derived.ArgAppend
import Derived.Laws.IdiomCopy
import Derived.OrdersHeld
import Derived.Laws.BitsLemmas
import Derived.RowKit
import Derived.Handy
import Derived.Lib.Strings
import Derived.Lib.Slices
import Derived.Lib.Small
import Derived.Lib.Walk
import Derived.Lib.BitFns
import Derived.Test.YtaehaehgngafnaaSbitsLen64
import Derived.Test.YtaehaehgngafnaaWWords
import Derived.Test.YtaehaehgngafnaaWLast
import Derived.Test.YtaehaehgngafnaaWTab
import Derived.Test.YtaehaehgngafnaaWFour
import Derived.Test.YtaehaehgngafnaaWQPut
import Derived.Test.YtaehaehgngafnaaWApart
import Derived.Test.YtaehaehgngafnaaWArr
import Derived.Test.YtaehaehgngafnaaWZeros
import Derived.Test.YtaehaehgngafnaaWFoot
import Derived.Test.YtaehaehgngafnaaWKept
import Derived.Test.YtaehaehgngafnaaWShare
import Derived.Test.YtaehaehgngafnaaWN
import Derived.Test.YtaehaehgngafnaaWFootNe
import Derived.Test.YtaehaehgngafnaaWAt
import Derived.Test.YtaehaehgngafnaaWEqStruct
import Derived.Test.YtaehaehgngafnaaWRepsOne
import Derived.Test.YtaehaehgngafnaaWInv
import Derived.Test.YtaehaehgngafnaaWInvWords
import Derived.Test.YtaehaehgngafnaaWGuard
import Derived.Test.YtaehaehgngafnaaWNEv
import Derived.Test.YtaehaehgngafnaaWMore
namespace Go.Proofs.Ytaehaehgngafnaa.P
open Go.RowKit Go.Proofs.YtaehaehgngafnaaW.PrintWords Go.Proofs.YtaehaehgngafnaaW.PrintLast Go.Proofs.YtaehaehgngafnaaW.PrintMore
attribute [local go_sem] max2_int min2_int max_two min_two max_three min_three max_four min_four   -- for this text's walks alone
set_option linter.unusedVariables false
set_option linter.unusedSimpArgs false



def errW : Option Int → Value
  | none => .nilIface
  | some c => .iface 0 (.int .i64 c)
theorem errW_none : errW none = .nilIface := rfl
theorem errW_some (c : Int) : errW (some c) = .iface 0 (.int .i64 c) := rfl

-- the values' own types

end Go.Proofs.Ytaehaehgngafnaa.P
