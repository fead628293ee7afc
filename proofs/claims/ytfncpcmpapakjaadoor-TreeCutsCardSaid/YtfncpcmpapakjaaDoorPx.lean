/- Laid by a program of this session (wip/pr), after the printer of the kit: the functions that a statement reaches as plain Lean functions, and that the calls of the machine come to them. No condition. -/
import Derived.Test.YtfncpcmpapakjaaDoorPx0
import Derived.Test.YtfncpcmpapakjaaDoorPx1
import Derived.Test.YtfncpcmpapakjaaDoorPx2
import Derived.Test.YtfncpcmpapakjaaDoorPx3
import Derived.Test.YtfncpcmpapakjaaDoorPx4
import Derived.Test.YtfncpcmpapakjaaDoorPx5
import Derived.Test.YtfncpcmpapakjaaDoorPx6
import Derived.Test.YtfncpcmpapakjaaDoorPx7
import Derived.Test.YtfncpcmpapakjaaDoorPx8
import Derived.Test.YtfncpcmpapakjaaDoorPx9
import Derived.Test.YtfncpcmpapakjaaDoorPx10
import Derived.Test.YtfncpcmpapakjaaDoorPx11
import Derived.Test.YtfncpcmpapakjaaDoorPx12
import Derived.Test.YtfncpcmpapakjaaDoorPx13
namespace Go.Proofs.YtfncpcmpapakjaaDoor.P
open Go.RowKit Go.Proofs.YtfncpcmpapakjaaDoorX Go.Proofs.YtfncpcmpapakjaaDoorW.PrintWords Go.Proofs.YtfncpcmpapakjaaDoorW.PrintLast Go.Proofs.YtfncpcmpapakjaaDoorW.PrintMore
attribute [local go_sem] max2_int min2_int max_two min_two max_three min_three max_four min_four   -- for this text's walks alone
set_option linter.unusedVariables false
set_option linter.unusedSimpArgs false

end Go.Proofs.YtfncpcmpapakjaaDoor.P
