/- What is proved here: the Go law FnExactInCell answers true for every input, over the functions that print.sh printed; no condition. -/
import Derived.Test.YtgifdahpbappaaaPFnExactInCellx1
set_option linter.unusedVariables false
set_option linter.unusedSimpArgs false
namespace Go.Proofs.Ytgifdahpbappaaa.Pure
open Go.RowKit Go.Proofs.Ytgifdahpbappaaa.PFnExactInCell Go.Proofs.YtgifdahpbappaaaW.PrintWords Go.Proofs.YtgifdahpbappaaaW.PrintLast

theorem l1In_eq (a b c : Int) : spec_l1In.f a b c = some (decide (b ≤ a ∧ a ≤ c)) := by
  unfold spec_l1In.f
  by_cases h : b ≤ a <;> simp [h]

theorem within_eq (a b c : Int) : impl_within.f a b c = some (decide (b ≤ a ∧ a ≤ c)) := by
  unfold impl_within.f
  by_cases h : b ≤ a <;> simp [h]

theorem FnExactInCell : laws_FnExactInCell.Pure := by
  intro a _
  unfold laws_FnExactInCell.f spec_InCell.f impl_InCell.f
  rw [l1In_eq, within_eq]
  by_cases h : 0 ≤ a ∧ a ≤ 1 <;> simp [h]

end Go.Proofs.Ytgifdahpbappaaa.Pure
