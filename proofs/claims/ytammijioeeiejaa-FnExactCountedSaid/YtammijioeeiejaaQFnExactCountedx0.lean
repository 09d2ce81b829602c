/- What is proved here: contracts of the Go functions that the law FnExactCounted reaches, for its row; no condition. The draft was printed; this text is not the print. -/
import Derived.Test.YtammijioeeiejaaProg
import Derived.Below
import Derived.Deep.Draws
import Derived.Deep.AppendLies
import Derived.Maps.AppendAt
import Derived.OwnWalk
import Derived.Laws.BytesArg
import Derived.Laws.MakeOwn
import Derived.Laws.OwnMore
import Derived.Deep.OwnRows
import Derived.Tactics
import Derived.Lib.ConvBytes
import Derived.Laws.Slices
import Derived.WalkKit
import Derived.KernelRfl
import Derived.RowKit3
import Derived.Deep.LoopGhost
import Derived.Deep.QuietTactic
import Derived.BigQuiet
import Derived.WideLaws
import Derived.Deep.DeepCutAuto
import Derived.Deep.CutBlock
import Derived.Deep.RegionHeld3
import Derived.Laws.Rows
import Derived.Lib.AppendStr
import Derived.ArgAppend
import Derived.Laws.IdiomCopy
import Derived.OrdersHeld
import Derived.Laws.BitsLemmas
import Derived.RowKit
import Derived.Test.YtammijioeeiejaaWWords
import Derived.Test.YtammijioeeiejaaWLast
import Derived.Test.YtammijioeeiejaaWTab
import Derived.Test.YtammijioeeiejaaWFour
import Derived.Test.YtammijioeeiejaaWQPut
import Derived.Test.YtammijioeeiejaaWApart
import Derived.Test.YtammijioeeiejaaWArr
import Derived.Test.YtammijioeeiejaaWZeros
import Derived.Test.YtammijioeeiejaaWFoot
import Derived.Test.YtammijioeeiejaaWKept
import Derived.Test.YtammijioeeiejaaWShare
import Derived.Test.YtammijioeeiejaaWN
import Derived.Test.YtammijioeeiejaaWFootNe
import Derived.Test.YtammijioeeiejaaWAt
import Derived.Test.YtammijioeeiejaaWEqStruct
import Derived.Test.YtammijioeeiejaaWRepsOne
import Derived.Test.YtammijioeeiejaaWInv
import Derived.Test.YtammijioeeiejaaWInvWords
import Derived.Test.YtammijioeeiejaaWGuard
import Derived.Test.YtammijioeeiejaaWNEv
import Derived.Test.YtammijioeeiejaaWMore
namespace Go.Proofs.Ytammijioeeiejaa.PFnExactCounted
open Go.RowKit Go.Proofs.YtammijioeeiejaaW.PrintWords Go.Proofs.YtammijioeeiejaaW.PrintLast Go.Proofs.YtammijioeeiejaaW.PrintMore
attribute [local go_sem] max2_int min2_int max_two min_two max_three min_three max_four min_four   -- for this text's walks alone
set_option linter.unusedVariables false
set_option linter.unusedSimpArgs false



def errW : Option Int → Value
  | none => .nilIface
  | some c => .iface 0 (.int .i64 c)
theorem errW_none : errW none = .nilIface := rfl
theorem errW_some (c : Int) : errW (some c) = .iface 0 (.int .i64 c) := rfl

-- the values' own types

end Go.Proofs.Ytammijioeeiejaa.PFnExactCounted
