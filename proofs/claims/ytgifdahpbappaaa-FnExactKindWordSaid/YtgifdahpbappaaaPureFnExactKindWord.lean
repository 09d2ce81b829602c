/- What is proved here: the Go law FnExactKindWord answers true for every input, over the functions that print.sh printed; no condition. -/
import Derived.Test.YtgifdahpbappaaaPFnExactKindWordx1
set_option linter.unusedVariables false
set_option linter.unusedSimpArgs false
namespace Go.Proofs.Ytgifdahpbappaaa.Pure
open Go.RowKit Go.Proofs.Ytgifdahpbappaaa.PFnExactKindWord Go.Proofs.YtgifdahpbappaaaW.PrintWords Go.Proofs.YtgifdahpbappaaaW.PrintLast

theorem l1In_eq (a b c : Int) : spec_l1In.f a b c = some (decide (b ≤ a ∧ a ≤ c)) := by
  unfold spec_l1In.f
  by_cases h : b ≤ a <;> simp [h]

theorem FnExactKindWord : laws_FnExactKindWord.Pure := by
  intro a _
  unfold laws_FnExactKindWord.f spec_KindWord.f impl_KindWord.f
  simp only [l1In_eq, Option.bind_some]
  by_cases h1 : a = 1
  · subst h1; decide +kernel
  by_cases h2 : a = 2
  · subst h2; decide +kernel
  by_cases h3 : a = 3
  · subst h3; decide +kernel
  have h : ¬ (1 ≤ a ∧ a ≤ 3) := by omega
  simp [h, h1, h2, h3]

end Go.Proofs.Ytgifdahpbappaaa.Pure
