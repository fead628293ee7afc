/- Laid by a program of this session (wip/pr), after the printer of the kit: the functions that a statement reaches as plain Lean functions, and that the calls of the machine come to them. No condition. -/
import Derived.Test.YtkloomnkpfaijaaDoorPx0
import Derived.Test.YtkloomnkpfaijaaDoorPx1
import Derived.Test.YtkloomnkpfaijaaDoorPx2
import Derived.Test.YtkloomnkpfaijaaDoorPx3
import Derived.Test.YtkloomnkpfaijaaDoorPx4
import Derived.Test.YtkloomnkpfaijaaDoorPx5
import Derived.Test.YtkloomnkpfaijaaDoorPx6
import Derived.Test.YtkloomnkpfaijaaDoorPx7
import Derived.Test.YtkloomnkpfaijaaDoorPx8
import Derived.Test.YtkloomnkpfaijaaDoorPx9
import Derived.Test.YtkloomnkpfaijaaDoorPx10
import Derived.Test.YtkloomnkpfaijaaDoorPx11
import Derived.Test.YtkloomnkpfaijaaDoorPx12
import Derived.Test.YtkloomnkpfaijaaDoorPx13
import Derived.Test.YtkloomnkpfaijaaDoorPx14
import Derived.Test.YtkloomnkpfaijaaDoorPx15
import Derived.Test.YtkloomnkpfaijaaDoorPx16
import Derived.Test.YtkloomnkpfaijaaDoorPx17
import Derived.Test.YtkloomnkpfaijaaDoorPx18
import Derived.Test.YtkloomnkpfaijaaDoorPx19
import Derived.Test.YtkloomnkpfaijaaDoorPx20
import Derived.Test.YtkloomnkpfaijaaDoorPx21
import Derived.Test.YtkloomnkpfaijaaDoorPx22
import Derived.Test.YtkloomnkpfaijaaDoorPx23
import Derived.Test.YtkloomnkpfaijaaDoorPx24
import Derived.Test.YtkloomnkpfaijaaDoorPx25
import Derived.Test.YtkloomnkpfaijaaDoorPx26
import Derived.Test.YtkloomnkpfaijaaDoorPx27
import Derived.Test.YtkloomnkpfaijaaDoorPx28
namespace Go.Proofs.YtkloomnkpfaijaaDoor.P
open Go.RowKit Go.Proofs.YtkloomnkpfaijaaDoorX Go.Proofs.YtkloomnkpfaijaaDoorW.PrintWords Go.Proofs.YtkloomnkpfaijaaDoorW.PrintLast Go.Proofs.YtkloomnkpfaijaaDoorW.PrintMore
attribute [local go_sem] max2_int min2_int max_two min_two
set_option linter.unusedVariables false
set_option linter.unusedSimpArgs false

end Go.Proofs.YtkloomnkpfaijaaDoor.P
