/- Laid by a program of this session (wip/pr), after the printer of the kit: the functions that a statement reaches as plain Lean functions, and that the calls of the machine come to them. No condition. -/
import Derived.Test.YtbhjoflpnepikaaDoorPx0
import Derived.Test.YtbhjoflpnepikaaDoorPx1
import Derived.Test.YtbhjoflpnepikaaDoorPx2
import Derived.Test.YtbhjoflpnepikaaDoorPx3
import Derived.Test.YtbhjoflpnepikaaDoorPx4
import Derived.Test.YtbhjoflpnepikaaDoorPx5
import Derived.Test.YtbhjoflpnepikaaDoorPx6
namespace Go.Proofs.YtbhjoflpnepikaaDoor.P
open Go.RowKit Go.Proofs.YtbhjoflpnepikaaDoorX Go.Proofs.YtbhjoflpnepikaaDoorW.PrintWords Go.Proofs.YtbhjoflpnepikaaDoorW.PrintLast Go.Proofs.YtbhjoflpnepikaaDoorW.PrintMore
attribute [local go_sem] max2_int min2_int max_two min_two max_three min_three max_four min_four   -- for this text's walks alone
set_option linter.unusedVariables false
set_option linter.unusedSimpArgs false

end Go.Proofs.YtbhjoflpnepikaaDoor.P
