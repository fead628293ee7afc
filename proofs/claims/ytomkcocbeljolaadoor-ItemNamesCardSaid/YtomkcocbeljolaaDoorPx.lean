/- Laid by a program of this session (wip/pr), after the printer of the kit: the functions that a statement reaches as plain Lean functions, and that the calls of the machine come to them. No condition. -/
import Derived.Test.YtomkcocbeljolaaDoorPx0
import Derived.Test.YtomkcocbeljolaaDoorPx1
import Derived.Test.YtomkcocbeljolaaDoorPx2
import Derived.Test.YtomkcocbeljolaaDoorPx3
import Derived.Test.YtomkcocbeljolaaDoorPx4
import Derived.Test.YtomkcocbeljolaaDoorPx5
import Derived.Test.YtomkcocbeljolaaDoorPx6
import Derived.Test.YtomkcocbeljolaaDoorPx7
import Derived.Test.YtomkcocbeljolaaDoorPx8
namespace Go.Proofs.YtomkcocbeljolaaDoor.P
open Go.RowKit Go.Proofs.YtomkcocbeljolaaDoorX Go.Proofs.YtomkcocbeljolaaDoorW.PrintWords Go.Proofs.YtomkcocbeljolaaDoorW.PrintLast Go.Proofs.YtomkcocbeljolaaDoorW.PrintMore
attribute [local go_sem] max2_int min2_int max_two min_two max_three min_three max_four min_four   -- for this text's walks alone
set_option linter.unusedVariables false
set_option linter.unusedSimpArgs false

end Go.Proofs.YtomkcocbeljolaaDoor.P
