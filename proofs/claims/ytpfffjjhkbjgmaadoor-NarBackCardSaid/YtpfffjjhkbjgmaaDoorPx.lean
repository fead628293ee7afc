/- Laid by a program of this session (wip/pr), after the printer of the kit: the functions that a statement reaches as plain Lean functions, and that the calls of the machine come to them. No condition. -/
import Derived.Test.YtpfffjjhkbjgmaaDoorPx0
import Derived.Test.YtpfffjjhkbjgmaaDoorPx1
import Derived.Test.YtpfffjjhkbjgmaaDoorPx2
import Derived.Test.YtpfffjjhkbjgmaaDoorPx3
import Derived.Test.YtpfffjjhkbjgmaaDoorPx4
import Derived.Test.YtpfffjjhkbjgmaaDoorPx5
import Derived.Test.YtpfffjjhkbjgmaaDoorPx6
import Derived.Test.YtpfffjjhkbjgmaaDoorPx7
import Derived.Test.YtpfffjjhkbjgmaaDoorPx8
import Derived.Test.YtpfffjjhkbjgmaaDoorPx9
import Derived.Test.YtpfffjjhkbjgmaaDoorPx10
import Derived.Test.YtpfffjjhkbjgmaaDoorPx11
import Derived.Test.YtpfffjjhkbjgmaaDoorPx12
import Derived.Test.YtpfffjjhkbjgmaaDoorPx13
namespace Go.Proofs.YtpfffjjhkbjgmaaDoor.P
open Go.RowKit Go.Proofs.YtpfffjjhkbjgmaaDoorX Go.Proofs.YtpfffjjhkbjgmaaDoorW.PrintWords Go.Proofs.YtpfffjjhkbjgmaaDoorW.PrintLast Go.Proofs.YtpfffjjhkbjgmaaDoorW.PrintMore
attribute [local go_sem] max2_int min2_int max_two min_two max_three min_three max_four min_four   -- for this text's walks alone
set_option linter.unusedVariables false
set_option linter.unusedSimpArgs false

end Go.Proofs.YtpfffjjhkbjgmaaDoor.P
