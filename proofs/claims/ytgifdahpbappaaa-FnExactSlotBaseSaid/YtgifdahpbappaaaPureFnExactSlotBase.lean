/- What is proved here: the Go law FnExactSlotBase answers true for every input, over the functions that print.sh printed; no condition. -/
import Derived.Test.YtgifdahpbappaaaPFnExactSlotBasex1
set_option linter.unusedVariables false
set_option linter.unusedSimpArgs false
namespace Go.Proofs.Ytgifdahpbappaaa.Pure
open Go.RowKit Go.Proofs.Ytgifdahpbappaaa.PFnExactSlotBase Go.Proofs.YtgifdahpbappaaaW.PrintWords Go.Proofs.YtgifdahpbappaaaW.PrintLast

theorem l1In_eq (a b c : Int) : spec_l1In.f a b c = some (decide (b ≤ a ∧ a ≤ c)) := by
  unfold spec_l1In.f
  by_cases h : b ≤ a <;> simp [h]

theorem within_eq (a b c : Int) : impl_within.f a b c = some (decide (b ≤ a ∧ a ≤ c)) := by
  unfold impl_within.f
  by_cases h : b ≤ a <;> simp [h]

theorem FnExactSlotBase : laws_FnExactSlotBase.Pure := by
  intro a b _ _
  unfold laws_FnExactSlotBase.f spec_SlotBase.f impl_SlotBase.f
  simp only [l1In_eq, within_eq, Option.bind_some]
  by_cases h : 0 ≤ a ∧ a ≤ 1 <;> by_cases h' : 0 ≤ b ∧ b ≤ 3 <;> simp [h, h', Int.mul_comm]

end Go.Proofs.Ytgifdahpbappaaa.Pure
