/- Printed out of the translation by our turned copy of the printer (wip/tools/mkpp.py of our repo). -/
import Derived.Test.YtdlfhpkkkhfhdaaDoorProg
import Derived.Below
import Derived.Deep.Draws
import Derived.Deep.AppendLies
import Derived.Maps.AppendAt
import Derived.OwnWalk
import Derived.Laws.BytesArg
import Derived.Laws.MakeOwn
import Derived.Laws.OwnMore
import Derived.Deep.OwnRows
import Derived.Tactics
import Derived.Lib.ConvBytes
import Derived.Laws.Slices
import Derived.WalkKit
import Derived.KernelRfl
import Derived.RowKit3
import Derived.Deep.LoopGhost
import Derived.Deep.QuietTactic
import Derived.BigQuiet
import Derived.WideLaws
import Derived.Deep.DeepCutAuto
import Derived.Deep.CutBlock
import Derived.Deep.RegionHeld3
import Derived.Laws.Rows
import Derived.Lib.AppendStr
import Derived.ArgAppend
import Derived.Laws.IdiomCopy
import Derived.OrdersHeld
import Derived.Laws.BitsLemmas
import Derived.RowKit
import Derived.Test.YtdlfhpkkkhfhdaaDoorWWords
import Derived.Test.YtdlfhpkkkhfhdaaDoorWLast
import Derived.Test.YtdlfhpkkkhfhdaaDoorWTab
import Derived.Test.YtdlfhpkkkhfhdaaDoorWFour
import Derived.Test.YtdlfhpkkkhfhdaaDoorWQPut
import Derived.Test.YtdlfhpkkkhfhdaaDoorWApart
import Derived.Test.YtdlfhpkkkhfhdaaDoorWArr
import Derived.Test.YtdlfhpkkkhfhdaaDoorWZeros
import Derived.Test.YtdlfhpkkkhfhdaaDoorWFoot
import Derived.Test.YtdlfhpkkkhfhdaaDoorWKept
import Derived.Test.YtdlfhpkkkhfhdaaDoorWShare
import Derived.Test.YtdlfhpkkkhfhdaaDoorWN
import Derived.Test.YtdlfhpkkkhfhdaaDoorWFootNe
import Derived.Test.YtdlfhpkkkhfhdaaDoorWAt
import Derived.Test.YtdlfhpkkkhfhdaaDoorWEqStruct
import Derived.Test.YtdlfhpkkkhfhdaaDoorWRepsOne
import Derived.Test.YtdlfhpkkkhfhdaaDoorWInv
import Derived.Test.YtdlfhpkkkhfhdaaDoorWInvWords
import Derived.Test.YtdlfhpkkkhfhdaaDoorWGuard
import Derived.Test.YtdlfhpkkkhfhdaaDoorWNEv
import Derived.Test.YtdlfhpkkkhfhdaaDoorWMore
import Derived.Test.YtdlfhpkkkhfhdaaDoorHCrc
import Derived.Test.YtdlfhpkkkhfhdaaDoorHPut
import Derived.Test.YtdlfhpkkkhfhdaaDoorHWords
import Derived.Test.YtdlfhpkkkhfhdaaDoorHLive
import Derived.Test.YtdlfhpkkkhfhdaaDoorQx
namespace Go.Proofs.YtdlfhpkkkhfhdaaDoor.Z
open Go.Proofs.YtdlfhpkkkhfhdaaDoor.Hand Go.Proofs.YtdlfhpkkkhfhdaaDoor.Q
open Go.RowKit Go.Proofs.YtdlfhpkkkhfhdaaDoorW.PrintWords Go.Proofs.YtdlfhpkkkhfhdaaDoorW.PrintLast Go.Proofs.YtdlfhpkkkhfhdaaDoorW.PrintMore
attribute [local go_sem] max2_int min2_int max_two min_two max_three min_three max_four min_four   -- for this text's walks alone
set_option linter.unusedVariables false
set_option linter.unusedSimpArgs false



def errW : Option Int → Value
  | none => .nilIface
  | some c => .iface 0 (.int .i64 c)
theorem errW_none : errW none = .nilIface := rfl
theorem errW_some (c : Int) : errW (some c) = .iface 0 (.int .i64 c) := rfl

-- the values' own types

end Go.Proofs.YtdlfhpkkkhfhdaaDoor.Z
