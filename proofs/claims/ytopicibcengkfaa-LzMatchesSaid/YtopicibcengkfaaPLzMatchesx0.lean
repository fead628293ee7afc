/- Laid by a program of this session (wip/pr), after the printer of the kit: the functions that a statement reaches as plain Lean functions, and that the calls of the machine come to them. No condition. -/
import Derived.Test.YtopicibcengkfaaProg
import Derived.Below
import Derived.Deep.Draws
import Derived.Deep.AppendLies
import Derived.Maps.AppendAt
import Derived.OwnWalk
import Derived.Laws.BytesArg
import Derived.Laws.MakeOwn
import Derived.Laws.OwnMore
import Derived.Deep.OwnRows
import Derived.Tactics
import Derived.Lib.ConvBytes
import Derived.Laws.Slices
import Derived.WalkKit
import Derived.KernelRfl
import Derived.RowKit3
import Derived.Deep.LoopGhost
import Derived.Deep.QuietTactic
import Derived.BigQuiet
import Derived.WideLaws
import Derived.Deep.DeepCutAuto
import Derived.Deep.CutBlock
import Derived.Deep.RegionHeld3
import Derived.Laws.Rows
import Derived.Lib.AppendStr
import Derived.ArgAppend
import Derived.Laws.IdiomCopy
import Derived.OrdersHeld
import Derived.Laws.BitsLemmas
import Derived.RowKit
import Derived.Test.YtopicibcengkfaaXWords
import Derived.Test.YtopicibcengkfaaWWords
import Derived.Test.YtopicibcengkfaaWLast
import Derived.Test.YtopicibcengkfaaWTab
import Derived.Test.YtopicibcengkfaaWFour
import Derived.Test.YtopicibcengkfaaWQPut
import Derived.Test.YtopicibcengkfaaWApart
import Derived.Test.YtopicibcengkfaaWArr
import Derived.Test.YtopicibcengkfaaWZeros
import Derived.Test.YtopicibcengkfaaWFoot
import Derived.Test.YtopicibcengkfaaWKept
import Derived.Test.YtopicibcengkfaaWShare
import Derived.Test.YtopicibcengkfaaWN
import Derived.Test.YtopicibcengkfaaWFootNe
import Derived.Test.YtopicibcengkfaaWAt
import Derived.Test.YtopicibcengkfaaWEqStruct
import Derived.Test.YtopicibcengkfaaWRepsOne
import Derived.Test.YtopicibcengkfaaWInv
import Derived.Test.YtopicibcengkfaaWInvWords
import Derived.Test.YtopicibcengkfaaWGuard
import Derived.Test.YtopicibcengkfaaWNEv
import Derived.Test.YtopicibcengkfaaWMore
namespace Go.Proofs.Ytopicibcengkfaa.PLzMatches
open Go.RowKit Go.Proofs.YtopicibcengkfaaX Go.Proofs.YtopicibcengkfaaW.PrintWords Go.Proofs.YtopicibcengkfaaW.PrintLast Go.Proofs.YtopicibcengkfaaW.PrintMore
attribute [local go_sem] max2_int min2_int max_two min_two max_three min_three max_four min_four   -- for this text's walks alone
set_option linter.unusedVariables false
set_option linter.unusedSimpArgs false



def errW : Option Int → Value
  | none => .nilIface
  | some c => .iface 0 (.int .i64 c)
theorem errW_none : errW none = .nilIface := rfl
theorem errW_some (c : Int) : errW (some c) = .iface 0 (.int .i64 c) := rfl

theorem info5 : (Try.prog.info? 5).map (fun i => (i.zero, i.size, i.bytes)) = some (some (.int .u8 0), 1, 1) := by kernel_rfl
-- the values' own types

end Go.Proofs.Ytopicibcengkfaa.PLzMatches
