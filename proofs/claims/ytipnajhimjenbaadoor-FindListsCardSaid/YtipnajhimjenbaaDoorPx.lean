/- Laid by a program of this session (wip/pr), after the printer of the kit: the functions that a statement reaches as plain Lean functions, and that the calls of the machine come to them. No condition. -/
import Derived.Test.YtipnajhimjenbaaDoorPx0
import Derived.Test.YtipnajhimjenbaaDoorPx1
import Derived.Test.YtipnajhimjenbaaDoorPx2
import Derived.Test.YtipnajhimjenbaaDoorPx3
import Derived.Test.YtipnajhimjenbaaDoorPx4
import Derived.Test.YtipnajhimjenbaaDoorPx5
import Derived.Test.YtipnajhimjenbaaDoorPx6
import Derived.Test.YtipnajhimjenbaaDoorPx7
import Derived.Test.YtipnajhimjenbaaDoorPx8
import Derived.Test.YtipnajhimjenbaaDoorPx9
namespace Go.Proofs.YtipnajhimjenbaaDoor.P
open Go.RowKit Go.Proofs.YtipnajhimjenbaaDoorX Go.Proofs.YtipnajhimjenbaaDoorW.PrintWords Go.Proofs.YtipnajhimjenbaaDoorW.PrintLast Go.Proofs.YtipnajhimjenbaaDoorW.PrintMore
attribute [local go_sem] max2_int min2_int max_two min_two max_three min_three max_four min_four   -- for this text's walks alone
set_option linter.unusedVariables false
set_option linter.unusedSimpArgs false

end Go.Proofs.YtipnajhimjenbaaDoor.P
