/- Printed out of the translation by our turned copy of the printer (wip/tools/mkpp.py of our repo). -/
import Derived.Test.YtdlfhpkkkhfhdaaQx0
import Derived.Test.YtdlfhpkkkhfhdaaQx1
import Derived.Test.YtdlfhpkkkhfhdaaQx2
namespace Go.Proofs.Ytdlfhpkkkhfhdaa.Q
open Go.Proofs.Ytdlfhpkkkhfhdaa.Hand
open Go.RowKit Go.Proofs.YtdlfhpkkkhfhdaaW.PrintWords Go.Proofs.YtdlfhpkkkhfhdaaW.PrintLast Go.Proofs.YtdlfhpkkkhfhdaaW.PrintMore
attribute [local go_sem] max2_int min2_int max_two min_two max_three min_three max_four min_four   -- for this text's walks alone
set_option linter.unusedVariables false
set_option linter.unusedSimpArgs false

end Go.Proofs.Ytdlfhpkkkhfhdaa.Q
