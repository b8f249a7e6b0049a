/- Printed out of the translation by our turned copy of the printer (wip/tools/mkpp.py of our repo). -/
import Derived.Test.YtdekcjopgnfmdaaQx0
import Derived.Test.YtdekcjopgnfmdaaQx1
import Derived.Test.YtdekcjopgnfmdaaQx2
import Derived.Test.YtdekcjopgnfmdaaQx3
import Derived.Test.YtdekcjopgnfmdaaQx4
namespace Go.Proofs.Ytdekcjopgnfmdaa.Q
open Go.RowKit Go.Proofs.YtdekcjopgnfmdaaW.PrintWords Go.Proofs.YtdekcjopgnfmdaaW.PrintLast Go.Proofs.YtdekcjopgnfmdaaW.PrintMore
set_option linter.unusedVariables false
set_option linter.unusedSimpArgs false

end Go.Proofs.Ytdekcjopgnfmdaa.Q
