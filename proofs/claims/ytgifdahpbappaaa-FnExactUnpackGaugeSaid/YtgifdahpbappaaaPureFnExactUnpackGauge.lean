/- What is proved here: the Go law FnExactUnpackGauge answers true for every input, over the functions that print.sh printed; no condition. -/
import Derived.Test.YtgifdahpbappaaaPFnExactUnpackGaugex1
set_option linter.unusedVariables false
set_option linter.unusedSimpArgs false
namespace Go.Proofs.Ytgifdahpbappaaa.Pure
open Go.RowKit Go.Proofs.Ytgifdahpbappaaa.PFnExactUnpackGauge Go.Proofs.YtgifdahpbappaaaW.PrintWords Go.Proofs.YtgifdahpbappaaaW.PrintLast

theorem l1In_eq (a b c : Int) : spec_l1In.f a b c = some (decide (b ≤ a ∧ a ≤ c)) := by
  unfold spec_l1In.f
  by_cases h : b ≤ a <;> simp [h]

theorem within_eq (a b c : Int) : impl_within.f a b c = some (decide (b ≤ a ∧ a ≤ c)) := by
  unfold impl_within.f
  by_cases h : b ≤ a <;> simp [h]

theorem w64 {n : Int} (h0 : -9223372036854775808 ≤ n) (h1 : n ≤ 9223372036854775807) : wrap64 n = n := by
  unfold wrap64
  omega

theorem wf64 {n : Int} (h : (Lit.int .i64 n).wf = true) : -9223372036854775808 ≤ n ∧ n ≤ 9223372036854775807 := by
  simp only [Lit.wf, IntKind.min, IntKind.max, IntKind.signed, IntKind.bits, Bool.and_eq_true, decide_eq_true_eq, if_true] at h
  omega

theorem FnExactUnpackGauge : laws_FnExactUnpackGauge.Pure := by
  intro a ha
  have ha := wf64 ha
  unfold laws_FnExactUnpackGauge.f spec_UnpackGauge.f impl_UnpackGauge.f impl_PackGauge.f
  simp only [l1In_eq, within_eq, Option.bind_some]
  by_cases h1 : a < 1
  · have h : ¬ (65536 ≤ a ∧ a ≤ 4294967295) := by omega
    simp [h, h1]
  · rw [if_neg h1]
    have e1 : Int.tdiv a 65536 = a / 65536 := Int.tdiv_eq_ediv_of_nonneg (by omega)
    have e2 : Int.tmod a 65536 = a % 65536 := Int.tmod_eq_emod_of_nonneg (by omega)
    rw [e1, e2, w64 (n := a / 65536) (by omega) (by omega)]
    by_cases h : 65536 ≤ a ∧ a ≤ 4294967295
    · have h3 : 1 ≤ a / 65536 ∧ a / 65536 ≤ 65535 := by omega
      have h4 : 0 ≤ a % 65536 ∧ a % 65536 ≤ 65535 := by omega
      have h5 : wrap64 (wrap64 (65536 * (a / 65536)) + a % 65536) = a := by
        rw [w64 (n := 65536 * (a / 65536)) (by omega) (by omega), w64 (by omega) (by omega)]; omega
      simp only [h, h3, h4, h5, and_self, decide_true, if_true, Option.bind_some]
    · by_cases h3 : 1 ≤ a / 65536 ∧ a / 65536 ≤ 65535
      · exfalso; omega
      · have h6 : ¬ (0 = a) := by omega
        simp [h, h3, h6]

end Go.Proofs.Ytgifdahpbappaaa.Pure
