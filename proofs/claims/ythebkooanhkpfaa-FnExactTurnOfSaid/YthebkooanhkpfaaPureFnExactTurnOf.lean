/- TurnOf: the program's TurnOf answers as the reference's at every integer; no condition. -/
import Derived.Test.YthebkooanhkpfaaPFnExactTurnOfx1
import Derived.Test.YthebkooanhkpfaaPlain
set_option linter.unusedVariables false
set_option linter.unusedSimpArgs false
namespace Go.Proofs.Ythebkooanhkpfaa.Pure
open Go.RowKit Go.Proofs.Ythebkooanhkpfaa.PFnExactTurnOf Go.Proofs.YthebkooanhkpfaaW.PrintWords Go.Proofs.YthebkooanhkpfaaW.PrintLast Go.Proofs.Ythebkooanhkpfaa.Plain

/-! spec_l1In -/
theorem spec_l1In_eq (a b c : Int) : spec_l1In.f a b c = some (decide (b ≤ a ∧ a ≤ c)) := by
  unfold spec_l1In.f
  split
  · rename_i h; simp [show b ≤ a from h]
  · rename_i h; simp [show ¬ b ≤ a from h]

/-! spec_GoodFixed -/
theorem spec_GoodFixed_eq (a : Int) : spec_GoodFixed.f a = some (decide (-1099511627776 ≤ a ∧ a ≤ 1099511627776)) := by
  unfold spec_GoodFixed.f; rw [spec_l1In_eq]; rfl

/-! spec_l1Down -/
theorem spec_l1Down_eq (a b : Int) (hb : 0 < b) (ha0 : -9223372036854775808 ≤ a) (ha1 : a ≤ 9223372036854775807) : spec_l1Down.f a b = some (a / b) := by
  have hr := ediv_range a b hb
  unfold spec_l1Down.f
  rw [if_neg (by omega)]
  have d0 : decide (b < 0) = false := decide_eq_false (by omega)
  by_cases h1 : Int.tmod a b < 0
  · have h2 := tmod_neg_of hb h1
    have h3 := tdiv_down hb h1
    rw [if_neg (by omega), if_pos (by rw [d0]; simp [h2]), wrap_id (x := Int.tdiv a b) (by omega) (by omega), wrap_id (by omega) (by omega), h3]
  · have h3 := tdiv_even hb h1
    rw [wrap_id (x := Int.tdiv a b) (by omega) (by omega), h3]
    by_cases h0 : Int.tmod a b = 0
    · rw [if_pos h0]
    · rw [if_neg h0, if_neg]
      rw [d0]
      have : ¬ a < 0 := fun h => by have := tmod_of_neg hb h; omega
      simp [this]

/-! spec_l1Mod -/
theorem spec_l1Mod_eq (a b : Int) (hb : 0 < b) (hb1 : b ≤ 4294967296) (ha0 : -9223372036854775808 ≤ a) (ha1 : a ≤ 9223372036854775807) : spec_l1Mod.f a b = some (a % b) := by
  unfold spec_l1Mod.f
  rw [spec_l1Down_eq a b hb ha0 ha1, Option.bind_some]
  have h0 := Int.emod_nonneg a (Int.ne_of_gt hb)
  have h1 := Int.emod_lt_of_pos a hb
  have h2 := Int.mul_ediv_add_emod a b
  have h3 : wrap64 (a - wrap64 (b * (a / b))) = a % b := by
    generalize b * (a / b) = m at *
    generalize a % b = r at *
    subst h2
    unfold wrap64
    omega
  rw [h3]

/-! spec_TurnOf -/
theorem spec_TurnOf_eq (a : Int) : spec_TurnOf.f a = some (if -1099511627776 ≤ a ∧ a ≤ 1099511627776 then ((a * 2048 + 5898240) / 11796480) % 4096 else 0) := by
  unfold spec_TurnOf.f
  rw [spec_GoodFixed_eq, Option.bind_some]
  by_cases h : -1099511627776 ≤ a ∧ a ≤ 1099511627776
  · rw [if_pos (by simpa using h), if_pos h, wrap_id (x := a * 2048) (by omega) (by omega), wrap_id (by omega) (by omega), spec_l1Down_eq _ _ (by omega) (by omega) (by omega), Option.bind_some,
      spec_l1Mod_eq _ _ (by omega) (by omega) (by omega) (by omega), Option.bind_some]
  · rw [if_neg (by simpa using h), if_neg h]

/-! impl_within -/
theorem impl_within_eq (a b c : Int) : impl_within.f a b c = some (decide (b ≤ a ∧ a ≤ c)) := by
  unfold impl_within.f
  split
  · rename_i h; simp [h]
  · rename_i h; simp [h]

/-! impl_GoodFixed -/
theorem impl_GoodFixed_eq (a : Int) : impl_GoodFixed.f a = some (decide (-1099511627776 ≤ a ∧ a ≤ 1099511627776)) := by
  unfold impl_GoodFixed.f; rw [impl_within_eq]; rfl

/-! impl_turned -/
theorem impl_turned_eq (a : Int) : impl_turned.f a = some (a % 4096) := by
  unfold impl_turned.f
  have h : Int.tmod (wrap64 (Int.tmod a 4096 + 4096)) 4096 = a % 4096 := by
    have hc := tmod_cases a 4096 (by omega)
    generalize Int.tmod a 4096 = t at *
    rw [wrap_id (by omega) (by omega), Int.tmod_eq_emod_of_nonneg (by omega)]
    omega
  rw [h]

/-! impl_down -/
theorem impl_down_eq (a b : Int) (hb : 0 < b) (ha0 : -9223372036854775808 ≤ a) (ha1 : a ≤ 9223372036854775807) : impl_down.f a b = some (a / b) := by
  have hr := ediv_range a b hb
  unfold impl_down.f
  rw [if_neg (by omega)]
  by_cases h1 : Int.tmod a b < 0
  · have h2 := tmod_neg_of hb h1
    have h3 := tdiv_down hb h1
    rw [if_pos h1, wrap_id (x := Int.tdiv a b) (by omega) (by omega), wrap_id (by omega) (by omega), h3]
  · have h3 := tdiv_even hb h1
    rw [if_neg h1, wrap_id (x := Int.tdiv a b) (by omega) (by omega), h3]

/-! impl_TurnOf -/
theorem impl_TurnOf_eq (a : Int) : impl_TurnOf.f a = some (if -1099511627776 ≤ a ∧ a ≤ 1099511627776 then ((a * 2048 + 5898240) / 11796480) % 4096 else 0) := by
  unfold impl_TurnOf.f
  rw [impl_GoodFixed_eq, Option.bind_some]
  by_cases h : -1099511627776 ≤ a ∧ a ≤ 1099511627776
  · rw [if_pos (by simpa using h), if_pos h, wrap_id (x := a * 2048) (by omega) (by omega), wrap_id (by omega) (by omega), impl_down_eq _ _ (by omega) (by omega) (by omega), Option.bind_some,
      impl_turned_eq, Option.bind_some]
  · rw [if_neg (by simpa using h), if_neg h]

theorem FnExactTurnOf : laws_FnExactTurnOf.Pure := by
  intro a _
  unfold laws_FnExactTurnOf.f
  rw [spec_TurnOf_eq, Option.bind_some, impl_TurnOf_eq, Option.bind_some, if_pos rfl]

end Go.Proofs.Ythebkooanhkpfaa.Pure
