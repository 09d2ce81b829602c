/- What is proved here: the Go law FnExactPackGauge answers true for every input, over the functions that print.sh printed; no condition. -/
import Derived.Test.YtgifdahpbappaaaPFnExactPackGaugex1
set_option linter.unusedVariables false
set_option linter.unusedSimpArgs false
namespace Go.Proofs.Ytgifdahpbappaaa.Pure
open Go.RowKit Go.Proofs.Ytgifdahpbappaaa.PFnExactPackGauge Go.Proofs.YtgifdahpbappaaaW.PrintWords Go.Proofs.YtgifdahpbappaaaW.PrintLast

theorem l1In_eq (a b c : Int) : spec_l1In.f a b c = some (decide (b ≤ a ∧ a ≤ c)) := by
  unfold spec_l1In.f
  by_cases h : b ≤ a <;> simp [h]

theorem within_eq (a b c : Int) : impl_within.f a b c = some (decide (b ≤ a ∧ a ≤ c)) := by
  unfold impl_within.f
  by_cases h : b ≤ a <;> simp [h]

theorem FnExactPackGauge : laws_FnExactPackGauge.Pure := by
  intro a b _ _
  unfold laws_FnExactPackGauge.f spec_PackGauge.f impl_PackGauge.f
  simp only [l1In_eq, within_eq, Option.bind_some]
  by_cases h : 1 ≤ a ∧ a ≤ 65535 <;> by_cases h' : 0 ≤ b ∧ b ≤ 65535 <;> simp [h, h', Int.mul_comm]

end Go.Proofs.Ytgifdahpbappaaa.Pure
