/- Laid by a program of this session (wip/pr), after the printer of the kit: the functions that a statement reaches as plain Lean functions, and that the calls of the machine come to them. No condition. -/
import Derived.Test.YtnbcmmgkdpekjaaDoorPx0
import Derived.Test.YtnbcmmgkdpekjaaDoorPx1
import Derived.Test.YtnbcmmgkdpekjaaDoorPx2
import Derived.Test.YtnbcmmgkdpekjaaDoorPx3
import Derived.Test.YtnbcmmgkdpekjaaDoorPx4
import Derived.Test.YtnbcmmgkdpekjaaDoorPx5
import Derived.Test.YtnbcmmgkdpekjaaDoorPx6
import Derived.Test.YtnbcmmgkdpekjaaDoorPx7
import Derived.Test.YtnbcmmgkdpekjaaDoorPx8
import Derived.Test.YtnbcmmgkdpekjaaDoorPx9
import Derived.Test.YtnbcmmgkdpekjaaDoorPx10
import Derived.Test.YtnbcmmgkdpekjaaDoorPx11
import Derived.Test.YtnbcmmgkdpekjaaDoorPx12
namespace Go.Proofs.YtnbcmmgkdpekjaaDoor.P
open Go.RowKit Go.Proofs.YtnbcmmgkdpekjaaDoorX Go.Proofs.YtnbcmmgkdpekjaaDoorW.PrintWords Go.Proofs.YtnbcmmgkdpekjaaDoorW.PrintLast Go.Proofs.YtnbcmmgkdpekjaaDoorW.PrintMore
attribute [local go_sem] max2_int min2_int max_two min_two max_three min_three max_four min_four   -- for this text's walks alone
set_option linter.unusedVariables false
set_option linter.unusedSimpArgs false

end Go.Proofs.YtnbcmmgkdpekjaaDoor.P
