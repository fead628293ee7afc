/- Laid by a program of this session (wip/pr), after the printer of the kit: the functions that a statement reaches as plain Lean functions, and that the calls of the machine come to them. No condition. -/
import Derived.Test.YtckoggeojokpeaaDoorPx0
import Derived.Test.YtckoggeojokpeaaDoorPx1
import Derived.Test.YtckoggeojokpeaaDoorPx2
import Derived.Test.YtckoggeojokpeaaDoorPx3
import Derived.Test.YtckoggeojokpeaaDoorPx4
import Derived.Test.YtckoggeojokpeaaDoorPx5
import Derived.Test.YtckoggeojokpeaaDoorPx6
import Derived.Test.YtckoggeojokpeaaDoorPx7
import Derived.Test.YtckoggeojokpeaaDoorPx8
import Derived.Test.YtckoggeojokpeaaDoorPx9
import Derived.Test.YtckoggeojokpeaaDoorPx10
import Derived.Test.YtckoggeojokpeaaDoorPx11
import Derived.Test.YtckoggeojokpeaaDoorPx12
import Derived.Test.YtckoggeojokpeaaDoorPx13
import Derived.Test.YtckoggeojokpeaaDoorPx14
import Derived.Test.YtckoggeojokpeaaDoorPx15
import Derived.Test.YtckoggeojokpeaaDoorPx16
import Derived.Test.YtckoggeojokpeaaDoorPx17
import Derived.Test.YtckoggeojokpeaaDoorPx18
import Derived.Test.YtckoggeojokpeaaDoorPx19
import Derived.Test.YtckoggeojokpeaaDoorPx20
import Derived.Test.YtckoggeojokpeaaDoorPx21
namespace Go.Proofs.YtckoggeojokpeaaDoor.P
open Go.RowKit Go.Proofs.YtckoggeojokpeaaDoorX Go.Proofs.YtckoggeojokpeaaDoorW.PrintWords Go.Proofs.YtckoggeojokpeaaDoorW.PrintLast Go.Proofs.YtckoggeojokpeaaDoorW.PrintMore
attribute [local go_sem] max2_int min2_int max_two min_two
set_option linter.unusedVariables false
set_option linter.unusedSimpArgs false

end Go.Proofs.YtckoggeojokpeaaDoor.P
