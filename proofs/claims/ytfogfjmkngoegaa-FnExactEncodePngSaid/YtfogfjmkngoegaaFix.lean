/- Plain lemmas on fixed numbers: wide products, bisection, roots, quotients to the nearest. -/
import Derived.Test.YtfogfjmkngoegaaEvs
import Derived.Test.YtfogfjmkngoegaaBits
set_option linter.unusedVariables false
set_option linter.unusedSimpArgs false
namespace Go.Proofs.Ytfogfjmkngoegaa.Plain
open Go.RowKit Go.Proofs.YtfogfjmkngoegaaW.PrintWords

theorem mul_bound {x y m n : Int} (hx0 : 0 ≤ x) (hx : x ≤ m) (hy0 : 0 ≤ y) (hy : y ≤ n) : 0 ≤ x * y ∧ x * y ≤ m * n :=
  ⟨Int.mul_nonneg hx0 hy0, Int.mul_le_mul hx hy hy0 (by omega)⟩

/-- a number below 2^128 in halves: the product as the halves tell it. -/
theorem halves_mul (a b : Int) (ha0 : 0 ≤ a) (ha : a < 18446744073709551616) (hb0 : 0 ≤ b) (hb : b < 18446744073709551616) :
    ∃ p q r s : Int, p = (a % 4294967296) * (b % 4294967296) ∧ q = (a / 4294967296) * (b % 4294967296) ∧ r = (a % 4294967296) * (b / 4294967296) ∧ s = (a / 4294967296) * (b / 4294967296) ∧
    a * b = s * 18446744073709551616 + (q + r) * 4294967296 + p ∧ 0 ≤ p ∧ p ≤ 18446744065119617025 ∧ 0 ≤ q ∧ q ≤ 18446744065119617025 ∧ 0 ≤ r ∧ r ≤ 18446744065119617025 ∧ 0 ≤ s ∧ s ≤ 18446744065119617025 := by
  refine ⟨_, _, _, _, rfl, rfl, rfl, rfl, ?_, ?_⟩
  · have h1 : a = (a / 4294967296) * 4294967296 + a % 4294967296 := by omega
    have h2 : b = (b / 4294967296) * 4294967296 + b % 4294967296 := by omega
    generalize a / 4294967296 = y at *
    generalize a % 4294967296 = x at *
    generalize b / 4294967296 = v at *
    generalize b % 4294967296 = u at *
    subst h1 h2
    simp only [Int.add_mul, Int.mul_add]
    have e1 : y * 4294967296 * (v * 4294967296) = y * v * 18446744073709551616 := by
      rw [Int.mul_assoc, Int.mul_left_comm 4294967296 v, ← Int.mul_assoc, ← Int.mul_assoc]; rw [Int.mul_assoc (y * v)]; rfl
    have e2 : x * (v * 4294967296) = x * v * 4294967296 := by rw [Int.mul_assoc]
    have e3 : y * 4294967296 * u = y * u * 4294967296 := by rw [Int.mul_assoc, Int.mul_comm 4294967296 u, ← Int.mul_assoc]
    rw [e1, e2, e3]; omega
  · have hx := mul_bound (x := a % 4294967296) (y := b % 4294967296) (m := 4294967295) (n := 4294967295) (by omega) (by omega) (by omega) (by omega)
    have hy := mul_bound (x := a / 4294967296) (y := b % 4294967296) (m := 4294967295) (n := 4294967295) (by omega) (by omega) (by omega) (by omega)
    have hz := mul_bound (x := a % 4294967296) (y := b / 4294967296) (m := 4294967295) (n := 4294967295) (by omega) (by omega) (by omega) (by omega)
    have hv := mul_bound (x := a / 4294967296) (y := b / 4294967296) (m := 4294967295) (n := 4294967295) (by omega) (by omega) (by omega) (by omega)
    omega

/-- a search by halves. -/
theorem bisect_ev (G : Int → Int → Nat → Option Int) (P : Int → Prop) [DecidablePred P] (lo0 top : Int)
    (hdone : ∀ lo, lo0 ≤ lo → lo ≤ top → Ev (G lo lo) lo)
    (hup : ∀ lo hi r, lo0 ≤ lo → lo < hi → hi ≤ top → P (lo + (hi - lo + 1) / 2) → Ev (G (lo + (hi - lo + 1) / 2) hi) r → Ev (G lo hi) r)
    (hdown : ∀ lo hi r, lo0 ≤ lo → lo < hi → hi ≤ top → ¬ P (lo + (hi - lo + 1) / 2) → Ev (G lo (lo + (hi - lo + 1) / 2 - 1)) r → Ev (G lo hi) r)
    (h0 : lo0 ≤ top) (hP : P lo0) :
    ∃ r, Ev (G lo0 top) r ∧ lo0 ≤ r ∧ r ≤ top ∧ P r ∧ (r = top ∨ ¬ P (r + 1)) := by
  have key : ∀ (n : Nat) (lo hi : Int), (hi - lo).toNat ≤ n → lo0 ≤ lo → lo ≤ hi → hi ≤ top → P lo → (hi = top ∨ ¬ P (hi + 1)) → ∃ r, Ev (G lo hi) r ∧ lo ≤ r ∧ r ≤ hi ∧ P r ∧ (r = top ∨ ¬ P (r + 1)) := by
    intro n
    induction n with
    | zero =>
      intro lo hi hn h1 h2 h3 hp hq
      obtain rfl : lo = hi := by omega
      exact ⟨lo, hdone lo h1 h3, by omega, by omega, hp, hq⟩
    | succ n ih =>
      intro lo hi hn h1 h2 h3 hp hq
      by_cases e : lo = hi
      · subst e; exact ⟨lo, hdone lo h1 h3, by omega, by omega, hp, hq⟩
      · by_cases hm : P (lo + (hi - lo + 1) / 2)
        · obtain ⟨r, hr, ha, hb, hc⟩ := ih (lo + (hi - lo + 1) / 2) hi (by omega) (by omega) (by omega) h3 hm hq
          exact ⟨r, hup lo hi r h1 (by omega) h3 hm hr, by omega, hb, hc⟩
        · obtain ⟨r, hr, ha, hb, hc⟩ := ih lo (lo + (hi - lo + 1) / 2 - 1) (by omega) h1 (by omega) (by omega) hp (.inr (by rw [Int.sub_add_cancel]; exact hm))
          exact ⟨r, hdown lo hi r h1 (by omega) h3 hm hr, ha, by omega, hc⟩
  exact key _ lo0 top (Nat.le_refl _) (by omega) h0 (by omega) hP (.inl rfl)

theorem sq_mono {x y : Int} (hx : 0 ≤ x) (h : x ≤ y) : x * x ≤ y * y := Int.mul_le_mul h h hx (by omega)
theorem sq_lt {x y : Int} (hx : 0 ≤ x) (h : x * x < y * y) (hy : 0 ≤ y) : x < y := by
  rcases Int.lt_or_le x y with h1 | h1
  · exact h1
  · have := sq_mono hy h1; omega
/-- a root is one. -/
theorem root_unique {a r s : Int} (hr : 0 ≤ r) (hs : 0 ≤ s) (h1 : r * r ≤ a) (h2 : a < (r + 1) * (r + 1)) (h3 : s * s ≤ a) (h4 : a < (s + 1) * (s + 1)) : r = s := by
  have := sq_lt (x := r) (y := s + 1) hr (by omega) (by omega)
  have := sq_lt (x := s) (y := r + 1) hs (by omega) (by omega)
  omega
/-- a quotient below 0, from the size. -/
theorem neg_near (x b : Int) (hb : 0 < b) : (b - x) / (2 * b) = -((x + b - 1) / (2 * b)) := by
  have h1 := Int.mul_ediv_add_emod (x + b - 1) (2 * b)
  have h2 := Int.emod_nonneg (x + b - 1) (b := 2 * b) (by omega)
  have h3 := Int.emod_lt_of_pos (x + b - 1) (b := 2 * b) (by omega)
  generalize (x + b - 1) / (2 * b) = q at *
  generalize (x + b - 1) % (2 * b) = r at *
  have h4 : (b - x) / (2 * b) = -q ∧ (b - x) % (2 * b) = 2 * b - 1 - r := by
    rw [Int.ediv_emod_unique (by omega)]
    refine ⟨?_, by omega, by omega⟩
    rw [Int.mul_neg]
    omega
  exact h4.1
/-- cut to the fixed numbers. -/
def cutFix (a : Int) : Int := if a > 1099511627776 then 1099511627776 else if a < -1099511627776 then -1099511627776 else a
theorem cutFix_cap (q : Int) (hq : 0 ≤ q) : cutFix (if q ≤ 4398046511104 then q else 4398046511104) = cutFix q ∧ cutFix (-(if q ≤ 4398046511104 then q else 4398046511104)) = cutFix (-q) := by
  unfold cutFix
  constructor
  · split <;> split <;> (try split) <;> omega
  · split <;> split <;> (try split) <;> omega
theorem cutFix_range (a : Int) : -1099511627776 ≤ cutFix a ∧ cutFix a ≤ 1099511627776 := by unfold cutFix; split <;> (try split) <;> omega
/-- what the reference's quotient to the nearest is. -/
def nearFix (neg : Bool) (v b : Int) : Int := if neg = true then cutFix (-((2 * v + b - 1) / (2 * b))) else cutFix ((2 * v + b) / (2 * b))
end Go.Proofs.Ytfogfjmkngoegaa.Plain
