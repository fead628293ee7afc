/- Laid by a program of this session (wip/pr), after the printer of the kit: the functions that a statement reaches as plain Lean functions, and that the calls of the machine come to them. No condition. -/
import Derived.Test.YtmhdekdpfacjoaaDoorPx0
import Derived.Test.YtmhdekdpfacjoaaDoorPx1
import Derived.Test.YtmhdekdpfacjoaaDoorPx2
import Derived.Test.YtmhdekdpfacjoaaDoorPx3
import Derived.Test.YtmhdekdpfacjoaaDoorPx4
import Derived.Test.YtmhdekdpfacjoaaDoorPx5
import Derived.Test.YtmhdekdpfacjoaaDoorPx6
import Derived.Test.YtmhdekdpfacjoaaDoorPx7
import Derived.Test.YtmhdekdpfacjoaaDoorPx8
import Derived.Test.YtmhdekdpfacjoaaDoorPx9
import Derived.Test.YtmhdekdpfacjoaaDoorPx10
import Derived.Test.YtmhdekdpfacjoaaDoorPx11
namespace Go.Proofs.YtmhdekdpfacjoaaDoor.P
open Go.RowKit Go.Proofs.YtmhdekdpfacjoaaDoorX Go.Proofs.YtmhdekdpfacjoaaDoorW.PrintWords Go.Proofs.YtmhdekdpfacjoaaDoorW.PrintLast Go.Proofs.YtmhdekdpfacjoaaDoorW.PrintMore
attribute [local go_sem] max2_int min2_int max_two min_two max_three min_three max_four min_four   -- for this text's walks alone
set_option linter.unusedVariables false
set_option linter.unusedSimpArgs false

end Go.Proofs.YtmhdekdpfacjoaaDoor.P
