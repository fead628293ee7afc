/- Laid by a program of this session (wip/pr), after the printer of the kit: the functions that a statement reaches as plain Lean functions, and that the calls of the machine come to them. No condition. -/
import Derived.Test.YthjfjkcjpkapgaaPx0
import Derived.Test.YthjfjkcjpkapgaaPx1
import Derived.Test.YthjfjkcjpkapgaaPx2
import Derived.Test.YthjfjkcjpkapgaaPx3
import Derived.Test.YthjfjkcjpkapgaaPx4
import Derived.Test.YthjfjkcjpkapgaaPx5
import Derived.Test.YthjfjkcjpkapgaaPx6
import Derived.Test.YthjfjkcjpkapgaaPx7
import Derived.Test.YthjfjkcjpkapgaaPx8
namespace Go.Proofs.Ythjfjkcjpkapgaa.P
open Go.RowKit Go.Proofs.YthjfjkcjpkapgaaX Go.Proofs.YthjfjkcjpkapgaaW.PrintWords Go.Proofs.YthjfjkcjpkapgaaW.PrintLast Go.Proofs.YthjfjkcjpkapgaaW.PrintMore
attribute [local go_sem] max2_int min2_int max_two min_two max_three min_three max_four min_four   -- for this text's walks alone
set_option linter.unusedVariables false
set_option linter.unusedSimpArgs false

end Go.Proofs.Ythjfjkcjpkapgaa.P
