/- Laid by a program of this session (wip/pr), after the printer of the kit: the functions that a statement reaches as plain Lean functions, and that the calls of the machine come to them. No condition. -/
import Derived.Test.YtpnfhnkjlcjdoaaDoorPx0
import Derived.Test.YtpnfhnkjlcjdoaaDoorPx1
import Derived.Test.YtpnfhnkjlcjdoaaDoorPx2
import Derived.Test.YtpnfhnkjlcjdoaaDoorPx3
import Derived.Test.YtpnfhnkjlcjdoaaDoorPx4
import Derived.Test.YtpnfhnkjlcjdoaaDoorPx5
namespace Go.Proofs.YtpnfhnkjlcjdoaaDoor.P
open Go.RowKit Go.Proofs.YtpnfhnkjlcjdoaaDoorX Go.Proofs.YtpnfhnkjlcjdoaaDoorW.PrintWords Go.Proofs.YtpnfhnkjlcjdoaaDoorW.PrintLast Go.Proofs.YtpnfhnkjlcjdoaaDoorW.PrintMore
attribute [local go_sem] max2_int min2_int max_two min_two max_three min_three max_four min_four   -- for this text's walks alone
set_option linter.unusedVariables false
set_option linter.unusedSimpArgs false

end Go.Proofs.YtpnfhnkjlcjdoaaDoor.P
