/- Printed out of the translation by our turned copy of the printer (wip/tools/mkpp.py of our repo). -/
import Derived.Test.YtgdjoochbgeokaaQx0
import Derived.Test.YtgdjoochbgeokaaQx1
import Derived.Test.YtgdjoochbgeokaaQx2
import Derived.Test.YtgdjoochbgeokaaQx3
namespace Go.Proofs.Ytgdjoochbgeokaa.Q
open Go.RowKit Go.Proofs.YtgdjoochbgeokaaW.PrintWords Go.Proofs.YtgdjoochbgeokaaW.PrintLast Go.Proofs.YtgdjoochbgeokaaW.PrintMore
attribute [local go_sem] max2_int min2_int max_two min_two max_three min_three max_four min_four   -- for this text's walks alone
set_option linter.unusedVariables false
set_option linter.unusedSimpArgs false

end Go.Proofs.Ytgdjoochbgeokaa.Q
