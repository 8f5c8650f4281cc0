/- Plain lemmas on numbers: no program in sight. -/
import Derived.RowKit
set_option linter.unusedVariables false
set_option linter.unusedSimpArgs false
namespace Go.Proofs.YthfbpmjcjiihnaaGreatDoor.Plain
open Go.RowKit

theorem wrap_id {x : Int} (h0 : -9223372036854775808 ≤ x) (h1 : x ≤ 9223372036854775807) : wrap64 x = x := by
  unfold wrap64; omega
theorem wf_i64 {a : Int} (h : (Lit.int .i64 a).wf = true) : -9223372036854775808 ≤ a ∧ a ≤ 9223372036854775807 := by
  simp [Lit.wf] at h; exact ⟨by have := h.1; simp [IntKind.min, IntKind.bits, IntKind.signed] at this; omega, h.2⟩
theorem tdiv_down {a b : Int} (hb : 0 < b) (h : a.tmod b < 0) : a.tdiv b - 1 = a / b := by
  rw [Int.tdiv_eq_ediv, Int.sign_eq_one_of_pos hb]
  rw [Int.tmod_eq_emod] at h
  have h1 := Int.emod_nonneg a (Int.ne_of_gt hb)
  split
  · rename_i hc; rw [if_pos hc] at h; omega
  · omega
theorem tdiv_even {a b : Int} (hb : 0 < b) (h : ¬ a.tmod b < 0) : a.tdiv b = a / b := by
  rw [Int.tdiv_eq_ediv, Int.sign_eq_one_of_pos hb]
  rw [Int.tmod_eq_emod] at h
  have h1 := Int.emod_lt_of_pos a hb
  split
  · omega
  · rename_i hc; rw [if_neg hc] at h
    have : (b.natAbs : Int) = b := by omega
    omega
theorem ediv_range (a b : Int) (hb : 0 < b) : (0 ≤ a → 0 ≤ a / b ∧ a / b ≤ a) ∧ (a ≤ 0 → a ≤ a / b ∧ a / b ≤ 0) := by
  refine ⟨fun h => ⟨Int.ediv_nonneg h (by omega), Int.ediv_le_self b h⟩, fun h => ⟨?_, ?_⟩⟩
  · rw [Int.le_ediv_iff_mul_le hb]
    have h2 : a * (b - 1) ≤ 0 := Int.mul_nonpos_of_nonpos_of_nonneg h (by omega)
    rw [Int.mul_sub] at h2
    omega
  · have := Int.ediv_le_ediv hb h
    rw [Int.zero_ediv] at this
    exact this
theorem tmod_neg_of {a b : Int} (hb : 0 < b) (h : a.tmod b < 0) : a < 0 := by
  rw [Int.tmod_eq_emod] at h
  have h1 := Int.emod_nonneg a (Int.ne_of_gt hb)
  split at h
  · omega
  · rename_i hc; omega
theorem tmod_of_neg {a b : Int} (hb : 0 < b) (h : a < 0) : a.tmod b ≤ 0 := by
  have h1 := Int.tmod_nonneg b (a := -a) (by omega)
  rw [Int.neg_tmod] at h1
  omega
theorem tmod_cases (a b : Int) (hb : 0 < b) : a.tmod b = a % b ∨ a.tmod b = a % b - b := by
  rw [Int.tmod_eq_emod]
  split
  · left; simp
  · right; omega
end Go.Proofs.YthfbpmjcjiihnaaGreatDoor.Plain
