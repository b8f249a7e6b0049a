/- FrameNames: the walk and the plain law, joined. -/
import Derived.Test.YtdlfhpkkkhfhdaaDoorZx1
namespace Go.Proofs.YtdlfhpkkkhfhdaaDoor.Hand
set_option linter.unusedVariables false
open Go.RowKit Go.Proofs.YtdlfhpkkkhfhdaaDoor.Q Go.Proofs.YtdlfhpkkkhfhdaaDoor.Z
theorem frameNames_machine (W : World) (hT : Tb W) : Calls Tryd.prog 4 #[] W fun e w' => e = .returned (.bool true) ∧ Below W.heap.size W w' :=
  wicketlaw01_FrameNames.calls true W hT (by rfl)
end Go.Proofs.YtdlfhpkkkhfhdaaDoor.Hand
