/- Printed out of the translation by our turned copy of the printer (wip/tools/mkpp.py of our repo). -/
import Derived.Test.YtdlfhpkkkhfhdaaDoorQx0
import Derived.Test.YtdlfhpkkkhfhdaaDoorQx1
import Derived.Test.YtdlfhpkkkhfhdaaDoorQx2
import Derived.Test.YtdlfhpkkkhfhdaaDoorQx3
import Derived.Test.YtdlfhpkkkhfhdaaDoorQx4
import Derived.Test.YtdlfhpkkkhfhdaaDoorQx5
namespace Go.Proofs.YtdlfhpkkkhfhdaaDoor.Q
open Go.Proofs.YtdlfhpkkkhfhdaaDoor.Hand
open Go.RowKit Go.Proofs.YtdlfhpkkkhfhdaaDoorW.PrintWords Go.Proofs.YtdlfhpkkkhfhdaaDoorW.PrintLast Go.Proofs.YtdlfhpkkkhfhdaaDoorW.PrintMore
attribute [local go_sem] max2_int min2_int max_two min_two max_three min_three max_four min_four   -- for this text's walks alone
set_option linter.unusedVariables false
set_option linter.unusedSimpArgs false

end Go.Proofs.YtdlfhpkkkhfhdaaDoor.Q
