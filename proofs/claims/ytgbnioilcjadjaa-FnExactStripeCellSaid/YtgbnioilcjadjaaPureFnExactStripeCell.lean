/- What is proved here: the Go law FnExactStripeCell answers true for every input, over the functions that print.sh printed; no condition. -/
import Derived.Test.YtgbnioilcjadjaaPFnExactStripeCellx1
set_option linter.unusedVariables false
set_option linter.unusedSimpArgs false
namespace Go.Proofs.Ytgbnioilcjadjaa.Pure
open Go.RowKit Go.Proofs.Ytgbnioilcjadjaa.PFnExactStripeCell Go.Proofs.YtgbnioilcjadjaaW.PrintWords Go.Proofs.YtgbnioilcjadjaaW.PrintLast

theorem l1In_eq (a b c : Int) : spec_l1In.f a b c = some (decide (b ≤ a ∧ a ≤ c)) := by
  unfold spec_l1In.f
  by_cases h : b ≤ a <;> simp [h]

theorem within_eq (a b c : Int) : impl_within.f a b c = some (decide (b ≤ a ∧ a ≤ c)) := by
  unfold impl_within.f
  by_cases h : b ≤ a <;> simp [h]

def slotBaseV (b s : Int) : Int := if (0 ≤ b ∧ b ≤ 1) ∧ (0 ≤ s ∧ s ≤ 3) then 7 + 32 * b + 8 * s else -1
theorem spec_SlotBase_eq (b s : Int) : spec_SlotBase.f b s = some (slotBaseV b s) := by
  unfold spec_SlotBase.f slotBaseV
  simp only [l1In_eq, Option.bind_some]
  by_cases h : 0 ≤ b ∧ b ≤ 1 <;> by_cases h' : 0 ≤ s ∧ s ≤ 3 <;> simp [h, h']
  unfold wrap64; omega
theorem impl_SlotBase_eq (b s : Int) : impl_SlotBase.f b s = some (slotBaseV b s) := by
  unfold impl_SlotBase.f slotBaseV
  simp only [within_eq, Option.bind_some]
  by_cases h : 0 ≤ b ∧ b ≤ 1 <;> by_cases h' : 0 ≤ s ∧ s ≤ 3 <;> simp [h, h']
  unfold wrap64; omega

def cellV (b s c : Int) : Int := if slotBaseV b s < 0 then -1 else wrap64 (slotBaseV b s + c)
theorem spec_l3Cell_eq (b s c : Int) : spec_l3Cell.f b s c = some (cellV b s c) := by
  unfold spec_l3Cell.f cellV
  rw [spec_SlotBase_eq]
  by_cases h : slotBaseV b s < 0 <;> simp [h]
theorem impl_cellOf_eq (b s c : Int) : impl_cellOf.f b s c = some (cellV b s c) := by
  unfold impl_cellOf.f cellV
  rw [impl_SlotBase_eq]
  by_cases h : slotBaseV b s < 0 <;> simp [h]

theorem FnExactStripeCell : laws_FnExactStripeCell.Pure := by
  intro a b c _ _ _
  unfold laws_FnExactStripeCell.f spec_StripeCell.f impl_StripeCell.f
  simp only [spec_l3Cell_eq, impl_cellOf_eq, l1In_eq, within_eq, Option.bind_some]
  by_cases h : 0 ≤ c ∧ c ≤ 1 <;> simp [h]

end Go.Proofs.Ytgbnioilcjadjaa.Pure
