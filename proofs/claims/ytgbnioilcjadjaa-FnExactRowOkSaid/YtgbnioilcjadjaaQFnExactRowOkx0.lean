/- What is proved here: contracts of the Go functions that the law FnExactRowOk reaches, for its row; no condition. The draft was printed; this text is not the print. -/
import Derived.Test.YtgbnioilcjadjaaProg
import Derived.Below
import Derived.Deep.Draws
import Derived.Deep.AppendLies
import Derived.Maps.AppendAt
import Derived.OwnWalk
import Derived.Laws.BytesArg
import Derived.Laws.MakeOwn
import Derived.Laws.OwnMore
import Derived.Deep.OwnRows
import Derived.Tactics
import Derived.Lib.ConvBytes
import Derived.Laws.Slices
import Derived.WalkKit
import Derived.KernelRfl
import Derived.RowKit3
import Derived.Deep.LoopGhost
import Derived.Deep.QuietTactic
import Derived.BigQuiet
import Derived.WideLaws
import Derived.Deep.DeepCutAuto
import Derived.Deep.CutBlock
import Derived.Deep.RegionHeld3
import Derived.Laws.Rows
import Derived.Lib.AppendStr
import Derived.ArgAppend
import Derived.Laws.IdiomCopy
import Derived.OrdersHeld
import Derived.Laws.BitsLemmas
import Derived.RowKit
import Derived.Test.YtgbnioilcjadjaaWWords
import Derived.Test.YtgbnioilcjadjaaWLast
import Derived.Test.YtgbnioilcjadjaaWTab
import Derived.Test.YtgbnioilcjadjaaWFour
import Derived.Test.YtgbnioilcjadjaaWQPut
import Derived.Test.YtgbnioilcjadjaaWApart
import Derived.Test.YtgbnioilcjadjaaWArr
import Derived.Test.YtgbnioilcjadjaaWZeros
import Derived.Test.YtgbnioilcjadjaaWFoot
import Derived.Test.YtgbnioilcjadjaaWKept
import Derived.Test.YtgbnioilcjadjaaWShare
import Derived.Test.YtgbnioilcjadjaaWN
import Derived.Test.YtgbnioilcjadjaaWFootNe
import Derived.Test.YtgbnioilcjadjaaWAt
import Derived.Test.YtgbnioilcjadjaaWEqStruct
import Derived.Test.YtgbnioilcjadjaaWRepsOne
import Derived.Test.YtgbnioilcjadjaaWInv
import Derived.Test.YtgbnioilcjadjaaWInvWords
import Derived.Test.YtgbnioilcjadjaaWGuard
import Derived.Test.YtgbnioilcjadjaaWNEv
import Derived.Test.YtgbnioilcjadjaaWMore
namespace Go.Proofs.Ytgbnioilcjadjaa.PFnExactRowOk
open Go.RowKit Go.Proofs.YtgbnioilcjadjaaW.PrintWords Go.Proofs.YtgbnioilcjadjaaW.PrintLast Go.Proofs.YtgbnioilcjadjaaW.PrintMore
attribute [local go_sem] max2_int min2_int max_two min_two max_three min_three max_four min_four   -- for this text's walks alone
set_option linter.unusedVariables false
set_option linter.unusedSimpArgs false



def errW : Option Int → Value
  | none => .nilIface
  | some c => .iface 0 (.int .i64 c)
theorem errW_none : errW none = .nilIface := rfl
theorem errW_some (c : Int) : errW (some c) = .iface 0 (.int .i64 c) := rfl

-- the values' own types

end Go.Proofs.Ytgbnioilcjadjaa.PFnExactRowOk
