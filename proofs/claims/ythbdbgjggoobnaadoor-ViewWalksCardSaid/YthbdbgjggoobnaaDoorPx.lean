/- Laid by a program of this session (wip/pr), after the printer of the kit: the functions that a statement reaches as plain Lean functions, and that the calls of the machine come to them. No condition. -/
import Derived.Test.YthbdbgjggoobnaaDoorPx0
import Derived.Test.YthbdbgjggoobnaaDoorPx1
import Derived.Test.YthbdbgjggoobnaaDoorPx2
import Derived.Test.YthbdbgjggoobnaaDoorPx3
import Derived.Test.YthbdbgjggoobnaaDoorPx4
import Derived.Test.YthbdbgjggoobnaaDoorPx5
import Derived.Test.YthbdbgjggoobnaaDoorPx6
import Derived.Test.YthbdbgjggoobnaaDoorPx7
import Derived.Test.YthbdbgjggoobnaaDoorPx8
import Derived.Test.YthbdbgjggoobnaaDoorPx9
import Derived.Test.YthbdbgjggoobnaaDoorPx10
import Derived.Test.YthbdbgjggoobnaaDoorPx11
import Derived.Test.YthbdbgjggoobnaaDoorPx12
import Derived.Test.YthbdbgjggoobnaaDoorPx13
import Derived.Test.YthbdbgjggoobnaaDoorPx14
import Derived.Test.YthbdbgjggoobnaaDoorPx15
import Derived.Test.YthbdbgjggoobnaaDoorPx16
import Derived.Test.YthbdbgjggoobnaaDoorPx17
import Derived.Test.YthbdbgjggoobnaaDoorPx18
import Derived.Test.YthbdbgjggoobnaaDoorPx19
import Derived.Test.YthbdbgjggoobnaaDoorPx20
import Derived.Test.YthbdbgjggoobnaaDoorPx21
import Derived.Test.YthbdbgjggoobnaaDoorPx22
import Derived.Test.YthbdbgjggoobnaaDoorPx23
namespace Go.Proofs.YthbdbgjggoobnaaDoor.P
open Go.RowKit Go.Proofs.YthbdbgjggoobnaaDoorX Go.Proofs.YthbdbgjggoobnaaDoorW.PrintWords Go.Proofs.YthbdbgjggoobnaaDoorW.PrintLast Go.Proofs.YthbdbgjggoobnaaDoorW.PrintMore
attribute [local go_sem] max2_int min2_int max_two min_two
set_option linter.unusedVariables false
set_option linter.unusedSimpArgs false

end Go.Proofs.YthbdbgjggoobnaaDoor.P
