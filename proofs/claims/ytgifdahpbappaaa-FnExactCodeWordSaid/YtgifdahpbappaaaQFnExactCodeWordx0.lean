/- What is proved here: contracts of the Go functions that the law FnExactCodeWord reaches, for its row; no condition. The draft was printed; this text is not the print. -/
import Derived.Test.YtgifdahpbappaaaProg
import Derived.Below
import Derived.Deep.Draws
import Derived.Deep.AppendLies
import Derived.Maps.AppendAt
import Derived.OwnWalk
import Derived.Laws.BytesArg
import Derived.Laws.MakeOwn
import Derived.Laws.OwnMore
import Derived.Deep.OwnRows
import Derived.Tactics
import Derived.Lib.ConvBytes
import Derived.Laws.Slices
import Derived.WalkKit
import Derived.KernelRfl
import Derived.RowKit3
import Derived.Deep.LoopGhost
import Derived.Deep.QuietTactic
import Derived.BigQuiet
import Derived.WideLaws
import Derived.Deep.DeepCutAuto
import Derived.Deep.CutBlock
import Derived.Deep.RegionHeld3
import Derived.Laws.Rows
import Derived.Lib.AppendStr
import Derived.ArgAppend
import Derived.Laws.IdiomCopy
import Derived.OrdersHeld
import Derived.Laws.BitsLemmas
import Derived.RowKit
import Derived.Test.YtgifdahpbappaaaWWords
import Derived.Test.YtgifdahpbappaaaWLast
import Derived.Test.YtgifdahpbappaaaWTab
import Derived.Test.YtgifdahpbappaaaWFour
import Derived.Test.YtgifdahpbappaaaWQPut
import Derived.Test.YtgifdahpbappaaaWApart
import Derived.Test.YtgifdahpbappaaaWArr
import Derived.Test.YtgifdahpbappaaaWZeros
import Derived.Test.YtgifdahpbappaaaWFoot
import Derived.Test.YtgifdahpbappaaaWKept
import Derived.Test.YtgifdahpbappaaaWShare
import Derived.Test.YtgifdahpbappaaaWN
import Derived.Test.YtgifdahpbappaaaWFootNe
import Derived.Test.YtgifdahpbappaaaWAt
import Derived.Test.YtgifdahpbappaaaWEqStruct
import Derived.Test.YtgifdahpbappaaaWRepsOne
import Derived.Test.YtgifdahpbappaaaWInv
import Derived.Test.YtgifdahpbappaaaWInvWords
import Derived.Test.YtgifdahpbappaaaWGuard
import Derived.Test.YtgifdahpbappaaaWNEv
import Derived.Test.YtgifdahpbappaaaWMore
namespace Go.Proofs.Ytgifdahpbappaaa.PFnExactCodeWord
open Go.RowKit Go.Proofs.YtgifdahpbappaaaW.PrintWords Go.Proofs.YtgifdahpbappaaaW.PrintLast Go.Proofs.YtgifdahpbappaaaW.PrintMore
attribute [local go_sem] max2_int min2_int max_two min_two max_three min_three max_four min_four   -- for this text's walks alone
set_option linter.unusedVariables false
set_option linter.unusedSimpArgs false



def errW : Option Int → Value
  | none => .nilIface
  | some c => .iface 0 (.int .i64 c)
theorem errW_none : errW none = .nilIface := rfl
theorem errW_some (c : Int) : errW (some c) = .iface 0 (.int .i64 c) := rfl

theorem info9 : (Try.prog.info? 9).map (fun i => (i.zero, i.size, i.bytes)) = some (some (.string ⟨#[]⟩), 1, 16) := by kernel_rfl
-- the values' own types

end Go.Proofs.Ytgifdahpbappaaa.PFnExactCodeWord
