/- Laid by a program of this session (wip/pr), after the printer of the kit: the functions that a statement reaches as plain Lean functions, and that the calls of the machine come to them. No condition. -/
import Derived.Test.YtiamdmlbhmgnjaaDoorPx0
import Derived.Test.YtiamdmlbhmgnjaaDoorPx1
import Derived.Test.YtiamdmlbhmgnjaaDoorPx2
import Derived.Test.YtiamdmlbhmgnjaaDoorPx3
import Derived.Test.YtiamdmlbhmgnjaaDoorPx4
import Derived.Test.YtiamdmlbhmgnjaaDoorPx5
import Derived.Test.YtiamdmlbhmgnjaaDoorPx6
import Derived.Test.YtiamdmlbhmgnjaaDoorPx7
import Derived.Test.YtiamdmlbhmgnjaaDoorPx8
import Derived.Test.YtiamdmlbhmgnjaaDoorPx9
import Derived.Test.YtiamdmlbhmgnjaaDoorPx10
import Derived.Test.YtiamdmlbhmgnjaaDoorPx11
import Derived.Test.YtiamdmlbhmgnjaaDoorPx12
import Derived.Test.YtiamdmlbhmgnjaaDoorPx13
import Derived.Test.YtiamdmlbhmgnjaaDoorPx14
import Derived.Test.YtiamdmlbhmgnjaaDoorPx15
import Derived.Test.YtiamdmlbhmgnjaaDoorPx16
namespace Go.Proofs.YtiamdmlbhmgnjaaDoor.P
open Go.RowKit Go.Proofs.YtiamdmlbhmgnjaaDoorX Go.Proofs.YtiamdmlbhmgnjaaDoorW.PrintWords Go.Proofs.YtiamdmlbhmgnjaaDoorW.PrintLast Go.Proofs.YtiamdmlbhmgnjaaDoorW.PrintMore
attribute [local go_sem] max2_int min2_int max_two min_two
set_option linter.unusedVariables false
set_option linter.unusedSimpArgs false

end Go.Proofs.YtiamdmlbhmgnjaaDoor.P
