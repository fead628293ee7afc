/- Laid by a program of this session (wip/pr), after the printer of the kit: the functions that a statement reaches as plain Lean functions, and that the calls of the machine come to them. No condition. -/
import Derived.Test.YtopicibcengkfaaPLzMatchesx0
import Derived.Test.YtopicibcengkfaaPLzMatchesx1
import Derived.Test.YtopicibcengkfaaPLzMatchesx2
import Derived.Test.YtopicibcengkfaaPLzMatchesx3
import Derived.Test.YtopicibcengkfaaPLzMatchesx4
namespace Go.Proofs.Ytopicibcengkfaa.PLzMatches
open Go.RowKit Go.Proofs.YtopicibcengkfaaX Go.Proofs.YtopicibcengkfaaW.PrintWords Go.Proofs.YtopicibcengkfaaW.PrintLast Go.Proofs.YtopicibcengkfaaW.PrintMore
attribute [local go_sem] max2_int min2_int max_two min_two max_three min_three max_four min_four   -- for this text's walks alone
set_option linter.unusedVariables false
set_option linter.unusedSimpArgs false

end Go.Proofs.Ytopicibcengkfaa.PLzMatches
