/- What is proved here: the Go law FnExactKeyCell answers true for every input, over the functions that print.sh printed; no condition. -/
import Derived.Test.YtgifdahpbappaaaPFnExactKeyCellx1
set_option linter.unusedVariables false
set_option linter.unusedSimpArgs false
namespace Go.Proofs.Ytgifdahpbappaaa.Pure
open Go.RowKit Go.Proofs.Ytgifdahpbappaaa.PFnExactKeyCell Go.Proofs.YtgifdahpbappaaaW.PrintWords Go.Proofs.YtgifdahpbappaaaW.PrintLast

theorem l1In_eq (a b c : Int) : spec_l1In.f a b c = some (decide (b ≤ a ∧ a ≤ c)) := by
  unfold spec_l1In.f
  by_cases h : b ≤ a <;> simp [h]

theorem within_eq (a b c : Int) : impl_within.f a b c = some (decide (b ≤ a ∧ a ≤ c)) := by
  unfold impl_within.f
  by_cases h : b ≤ a <;> simp [h]

theorem FnExactKeyCell : laws_FnExactKeyCell.Pure := by
  intro a _
  unfold laws_FnExactKeyCell.f spec_KeyCell.f impl_KeyCell.f
  rw [l1In_eq, within_eq]
  by_cases h : 0 ≤ a ∧ a ≤ 3 <;> simp [h]

end Go.Proofs.Ytgifdahpbappaaa.Pure
