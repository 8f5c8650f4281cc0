/- GoodFixed: the program's GoodFixed answers as the reference's at every integer; no condition. -/
import Derived.Test.YthebkooanhkpfaaPFnExactGoodFixedx1
import Derived.Test.YthebkooanhkpfaaPlain
set_option linter.unusedVariables false
set_option linter.unusedSimpArgs false
namespace Go.Proofs.Ythebkooanhkpfaa.Pure
open Go.RowKit Go.Proofs.Ythebkooanhkpfaa.PFnExactGoodFixed Go.Proofs.YthebkooanhkpfaaW.PrintWords Go.Proofs.YthebkooanhkpfaaW.PrintLast Go.Proofs.Ythebkooanhkpfaa.Plain

/-! spec_l1In -/
theorem spec_l1In_eq (a b c : Int) : spec_l1In.f a b c = some (decide (b ≤ a ∧ a ≤ c)) := by
  unfold spec_l1In.f
  split
  · rename_i h; simp [show b ≤ a from h]
  · rename_i h; simp [show ¬ b ≤ a from h]

/-! spec_GoodFixed -/
theorem spec_GoodFixed_eq (a : Int) : spec_GoodFixed.f a = some (decide (-1099511627776 ≤ a ∧ a ≤ 1099511627776)) := by
  unfold spec_GoodFixed.f; rw [spec_l1In_eq]; rfl

/-! impl_within -/
theorem impl_within_eq (a b c : Int) : impl_within.f a b c = some (decide (b ≤ a ∧ a ≤ c)) := by
  unfold impl_within.f
  split
  · rename_i h; simp [h]
  · rename_i h; simp [h]

/-! impl_GoodFixed -/
theorem impl_GoodFixed_eq (a : Int) : impl_GoodFixed.f a = some (decide (-1099511627776 ≤ a ∧ a ≤ 1099511627776)) := by
  unfold impl_GoodFixed.f; rw [impl_within_eq]; rfl

theorem FnExactGoodFixed : laws_FnExactGoodFixed.Pure := by
  intro a _
  unfold laws_FnExactGoodFixed.f
  rw [spec_GoodFixed_eq, Option.bind_some, impl_GoodFixed_eq, Option.bind_some, if_neg (by simp)]

end Go.Proofs.Ythebkooanhkpfaa.Pure
