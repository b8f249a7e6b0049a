/- Printed out of the translation by our turned copy of the printer (wip/tools/mkpp.py of our repo). -/
import Derived.Test.YthmkdmdfahhpmaaQx0
import Derived.Test.YthmkdmdfahhpmaaQx1
import Derived.Test.YthmkdmdfahhpmaaQx2
import Derived.Test.YthmkdmdfahhpmaaQx3
import Derived.Test.YthmkdmdfahhpmaaQx4
namespace Go.Proofs.Ythmkdmdfahhpmaa.Q
open Go.RowKit Go.Proofs.YthmkdmdfahhpmaaW.PrintWords Go.Proofs.YthmkdmdfahhpmaaW.PrintLast Go.Proofs.YthmkdmdfahhpmaaW.PrintMore
attribute [local go_sem] max2_int min2_int max_two min_two max_three min_three max_four min_four   -- for this text's walks alone
set_option linter.unusedVariables false
set_option linter.unusedSimpArgs false

end Go.Proofs.Ythmkdmdfahhpmaa.Q
