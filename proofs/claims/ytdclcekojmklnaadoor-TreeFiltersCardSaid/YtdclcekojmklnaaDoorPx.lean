/- Laid by a program of this session (wip/pr), after the printer of the kit: the functions that a statement reaches as plain Lean functions, and that the calls of the machine come to them. No condition. -/
import Derived.Test.YtdclcekojmklnaaDoorPx0
import Derived.Test.YtdclcekojmklnaaDoorPx1
import Derived.Test.YtdclcekojmklnaaDoorPx2
import Derived.Test.YtdclcekojmklnaaDoorPx3
import Derived.Test.YtdclcekojmklnaaDoorPx4
import Derived.Test.YtdclcekojmklnaaDoorPx5
import Derived.Test.YtdclcekojmklnaaDoorPx6
import Derived.Test.YtdclcekojmklnaaDoorPx7
import Derived.Test.YtdclcekojmklnaaDoorPx8
namespace Go.Proofs.YtdclcekojmklnaaDoor.P
open Go.RowKit Go.Proofs.YtdclcekojmklnaaDoorX Go.Proofs.YtdclcekojmklnaaDoorW.PrintWords Go.Proofs.YtdclcekojmklnaaDoorW.PrintLast Go.Proofs.YtdclcekojmklnaaDoorW.PrintMore
attribute [local go_sem] max2_int min2_int max_two min_two max_three min_three max_four min_four   -- for this text's walks alone
set_option linter.unusedVariables false
set_option linter.unusedSimpArgs false

end Go.Proofs.YtdclcekojmklnaaDoor.P
