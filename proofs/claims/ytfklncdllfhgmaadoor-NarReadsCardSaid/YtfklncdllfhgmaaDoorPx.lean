/- Laid by a program of this session (wip/pr), after the printer of the kit: the functions that a statement reaches as plain Lean functions, and that the calls of the machine come to them. No condition. -/
import Derived.Test.YtfklncdllfhgmaaDoorPx0
import Derived.Test.YtfklncdllfhgmaaDoorPx1
import Derived.Test.YtfklncdllfhgmaaDoorPx2
import Derived.Test.YtfklncdllfhgmaaDoorPx3
import Derived.Test.YtfklncdllfhgmaaDoorPx4
import Derived.Test.YtfklncdllfhgmaaDoorPx5
import Derived.Test.YtfklncdllfhgmaaDoorPx6
import Derived.Test.YtfklncdllfhgmaaDoorPx7
import Derived.Test.YtfklncdllfhgmaaDoorPx8
import Derived.Test.YtfklncdllfhgmaaDoorPx9
import Derived.Test.YtfklncdllfhgmaaDoorPx10
import Derived.Test.YtfklncdllfhgmaaDoorPx11
import Derived.Test.YtfklncdllfhgmaaDoorPx12
import Derived.Test.YtfklncdllfhgmaaDoorPx13
import Derived.Test.YtfklncdllfhgmaaDoorPx14
import Derived.Test.YtfklncdllfhgmaaDoorPx15
import Derived.Test.YtfklncdllfhgmaaDoorPx16
import Derived.Test.YtfklncdllfhgmaaDoorPx17
import Derived.Test.YtfklncdllfhgmaaDoorPx18
import Derived.Test.YtfklncdllfhgmaaDoorPx19
import Derived.Test.YtfklncdllfhgmaaDoorPx20
namespace Go.Proofs.YtfklncdllfhgmaaDoor.P
open Go.RowKit Go.Proofs.YtfklncdllfhgmaaDoorX Go.Proofs.YtfklncdllfhgmaaDoorW.PrintWords Go.Proofs.YtfklncdllfhgmaaDoorW.PrintLast Go.Proofs.YtfklncdllfhgmaaDoorW.PrintMore
attribute [local go_sem] max2_int min2_int max_two min_two max_three min_three max_four min_four   -- for this text's walks alone
set_option linter.unusedVariables false
set_option linter.unusedSimpArgs false

end Go.Proofs.YtfklncdllfhgmaaDoor.P
