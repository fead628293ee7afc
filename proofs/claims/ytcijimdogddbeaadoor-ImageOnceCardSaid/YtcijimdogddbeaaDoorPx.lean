/- Laid by a program of this session (wip/pr), after the printer of the kit: the functions that a statement reaches as plain Lean functions, and that the calls of the machine come to them. No condition. -/
import Derived.Test.YtcijimdogddbeaaDoorPx0
import Derived.Test.YtcijimdogddbeaaDoorPx1
import Derived.Test.YtcijimdogddbeaaDoorPx2
import Derived.Test.YtcijimdogddbeaaDoorPx3
import Derived.Test.YtcijimdogddbeaaDoorPx4
import Derived.Test.YtcijimdogddbeaaDoorPx5
import Derived.Test.YtcijimdogddbeaaDoorPx6
import Derived.Test.YtcijimdogddbeaaDoorPx7
import Derived.Test.YtcijimdogddbeaaDoorPx8
import Derived.Test.YtcijimdogddbeaaDoorPx9
import Derived.Test.YtcijimdogddbeaaDoorPx10
import Derived.Test.YtcijimdogddbeaaDoorPx11
import Derived.Test.YtcijimdogddbeaaDoorPx12
import Derived.Test.YtcijimdogddbeaaDoorPx13
import Derived.Test.YtcijimdogddbeaaDoorPx14
import Derived.Test.YtcijimdogddbeaaDoorPx15
import Derived.Test.YtcijimdogddbeaaDoorPx16
import Derived.Test.YtcijimdogddbeaaDoorPx17
import Derived.Test.YtcijimdogddbeaaDoorPx18
namespace Go.Proofs.YtcijimdogddbeaaDoor.P
open Go.RowKit Go.Proofs.YtcijimdogddbeaaDoorX Go.Proofs.YtcijimdogddbeaaDoorW.PrintWords Go.Proofs.YtcijimdogddbeaaDoorW.PrintLast Go.Proofs.YtcijimdogddbeaaDoorW.PrintMore
attribute [local go_sem] max2_int min2_int max_two min_two
set_option linter.unusedVariables false
set_option linter.unusedSimpArgs false

end Go.Proofs.YtcijimdogddbeaaDoor.P
