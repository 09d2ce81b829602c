/- What is proved here: the Go law FnExactCodeWord answers true for every input, over the functions that print.sh printed; no condition. -/
import Derived.Test.YtgifdahpbappaaaQFnExactCodeWordx1
set_option linter.unusedVariables false
set_option linter.unusedSimpArgs false
namespace Go.Proofs.Ytgifdahpbappaaa.Pure
open Go.RowKit Go.Proofs.Ytgifdahpbappaaa.PFnExactCodeWord Go.Proofs.YtgifdahpbappaaaW.PrintWords Go.Proofs.YtgifdahpbappaaaW.PrintLast

theorem l1In_eq (a b c : Int) : spec_l1In.f a b c = some (decide (b ≤ a ∧ a ≤ c)) := by
  unfold spec_l1In.f
  by_cases h : b ≤ a <;> simp [h]

theorem codeWord_total (a : Int) : ∃ r, spec_CodeWord.f a = some r := by
  by_cases ha : 0 ≤ a ∧ a ≤ 5
  · rcases (show a = 0 ∨ a = 1 ∨ a = 2 ∨ a = 3 ∨ a = 4 ∨ a = 5 by omega) with rfl | rfl | rfl | rfl | rfl | rfl
    all_goals exact Option.isSome_iff_exists.1 (by decide +kernel)
  · refine ⟨⟨#[]⟩, ?_⟩
    unfold spec_CodeWord.f
    rw [l1In_eq, Option.bind_some, if_neg (by simpa using ha)]
theorem FnExactCodeWord : laws_FnExactCodeWord.Pure := by
  intro a _
  obtain ⟨r, hr⟩ := codeWord_total a
  have hi : impl_CodeWord.f a = some r := hr
  unfold laws_FnExactCodeWord.f
  rw [hr, hi]
  simp

end Go.Proofs.Ytgifdahpbappaaa.Pure
