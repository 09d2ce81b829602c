/- What is proved here: contracts of the Go functions that the law FnKeys reaches, for its row; no condition. The draft was printed; this text is not the print. -/
import Derived.Test.YtilhmohfneeglaaProg
import Derived.Below
import Derived.Deep.Draws
import Derived.Deep.AppendLies
import Derived.Maps.AppendAt
import Derived.OwnWalk
import Derived.Laws.BytesArg
import Derived.Laws.MakeOwn
import Derived.Laws.OwnMore
import Derived.Deep.OwnRows
import Derived.Tactics
import Derived.Lib.ConvBytes
import Derived.Laws.Slices
import Derived.WalkKit
import Derived.KernelRfl
import Derived.RowKit3
import Derived.Deep.LoopGhost
import Derived.Deep.QuietTactic
import Derived.BigQuiet
import Derived.WideLaws
import Derived.Deep.DeepCutAuto
import Derived.Deep.CutBlock
import Derived.Deep.RegionHeld3
import Derived.Laws.Rows
import Derived.Lib.AppendStr
import Derived.ArgAppend
import Derived.Laws.IdiomCopy
import Derived.OrdersHeld
import Derived.Laws.BitsLemmas
import Derived.RowKit
import Derived.Test.YtilhmohfneeglaaWWords
import Derived.Test.YtilhmohfneeglaaWLast
import Derived.Test.YtilhmohfneeglaaWTab
import Derived.Test.YtilhmohfneeglaaWFour
import Derived.Test.YtilhmohfneeglaaWQPut
import Derived.Test.YtilhmohfneeglaaWApart
import Derived.Test.YtilhmohfneeglaaWArr
import Derived.Test.YtilhmohfneeglaaWZeros
import Derived.Test.YtilhmohfneeglaaWFoot
import Derived.Test.YtilhmohfneeglaaWKept
import Derived.Test.YtilhmohfneeglaaWShare
import Derived.Test.YtilhmohfneeglaaWN
import Derived.Test.YtilhmohfneeglaaWFootNe
import Derived.Test.YtilhmohfneeglaaWAt
import Derived.Test.YtilhmohfneeglaaWEqStruct
import Derived.Test.YtilhmohfneeglaaWRepsOne
import Derived.Test.YtilhmohfneeglaaWInv
import Derived.Test.YtilhmohfneeglaaWInvWords
import Derived.Test.YtilhmohfneeglaaWGuard
import Derived.Test.YtilhmohfneeglaaWNEv
import Derived.Test.YtilhmohfneeglaaWMore
namespace Go.Proofs.Ytilhmohfneeglaa.PFnKeys
open Go.RowKit Go.Proofs.YtilhmohfneeglaaW.PrintWords Go.Proofs.YtilhmohfneeglaaW.PrintLast Go.Proofs.YtilhmohfneeglaaW.PrintMore
attribute [local go_sem] max2_int min2_int max_two min_two max_three min_three max_four min_four   -- for this text's walks alone
set_option linter.unusedVariables false
set_option linter.unusedSimpArgs false



def errW : Option Int → Value
  | none => .nilIface
  | some c => .iface 0 (.int .i64 c)
theorem errW_none : errW none = .nilIface := rfl
theorem errW_some (c : Int) : errW (some c) = .iface 0 (.int .i64 c) := rfl

theorem info3 : (Try.prog.info? 3).map (fun i => (i.zero, i.size, i.bytes)) = some (some (.int .i64 0), 1, 8) := by kernel_rfl
theorem info5 : (Try.prog.info? 5).map (fun i => (i.zero, i.size, i.bytes)) = some (some (.int .u8 0), 1, 1) := by kernel_rfl
theorem info9 : (Try.prog.info? 9).map (fun i => (i.zero, i.size, i.bytes)) = some (some (.string ⟨#[]⟩), 1, 16) := by kernel_rfl
-- the values' own types

end Go.Proofs.Ytilhmohfneeglaa.PFnKeys
