/- Plain words: numbers in texts. -/
import Derived.Test.YtooilehdljeepaaDoorWord
set_option linter.unusedVariables false
set_option linter.unusedSimpArgs false
namespace Go.Proofs.YtooilehdljeepaaDoor.Plain
open Go.RowKit Go.Proofs.YtooilehdljeepaaDoorW.PrintWords

theorem runEnd_mem (p : UInt8 → Bool) (l : List UInt8) : ∀ (n i j : Nat), j - i = n → i ≤ j → j < runEnd p l i → j < l.length ∧ p (l.getD j 0) = true := by
  intro n
  induction n with
  | zero =>
    intro i j hn hij hj
    obtain rfl : i = j := by omega
    by_cases hl : i < l.length
    · refine ⟨hl, ?_⟩
      by_cases hp : p (l.getD i 0) = true
      · exact hp
      · rw [runEnd_no p l i hl hp] at hj; omega
    · rw [runEnd_end p l i (by omega)] at hj; omega
  | succ n ih =>
    intro i j hn hij hj
    by_cases hl : i < l.length
    · by_cases hp : p (l.getD i 0) = true
      · rw [runEnd_yes p l i hl hp] at hj
        exact ih (i + 1) j (by omega) (by omega) hj
      · rw [runEnd_no p l i hl hp] at hj; omega
    · rw [runEnd_end p l i (by omega)] at hj; omega
theorem runEnd_stop (p : UInt8 → Bool) (l : List UInt8) : ∀ (n i : Nat), l.length - i = n → runEnd p l i < l.length → ¬ p (l.getD (runEnd p l i) 0) = true := by
  intro n
  induction n with
  | zero =>
    intro i hn h
    rw [runEnd_end p l i (by omega)] at h; omega
  | succ n ih =>
    intro i hn h
    have hl : i < l.length := by omega
    by_cases hp : p (l.getD i 0) = true
    · rw [runEnd_yes p l i hl hp] at h ⊢
      exact ih (i + 1) (by omega) h
    · rw [runEnd_no p l i hl hp]; exact hp
/-- where a run of digits ends. -/
def digEnd (l : List UInt8) (i : Nat) : Nat := runEnd digU l i
theorem digEnd_ge (l : List UInt8) (i : Nat) : i ≤ digEnd l i := runEnd_ge digU l i
theorem digEnd_le (l : List UInt8) (i : Nat) (h : i ≤ l.length) : digEnd l i ≤ l.length := runEnd_le digU l i h
theorem digU_range {c : UInt8} (h : digU c = true) : 48 ≤ c.toNat ∧ c.toNat ≤ 57 := by
  unfold digU digI at h
  have := of_decide_eq_true h
  omega
theorem digEnd_mem (l : List UInt8) (i j : Nat) (h0 : i ≤ j) (h1 : j < digEnd l i) : j < l.length ∧ digU (l.getD j 0) = true := runEnd_mem digU l (j - i) i j rfl h0 h1
theorem digEnd_stop (l : List UInt8) (i : Nat) (h : digEnd l i < l.length) : digU (l.getD (digEnd l i) 0) = false := by
  have := runEnd_stop digU l (l.length - i) i rfl h
  unfold digEnd
  simpa using this
/-- a digit's value. -/
def digV (l : List UInt8) (j : Nat) : Nat := (l.getD j 0).toNat - 48
theorem digV_le {l : List UInt8} {j : Nat} (h : digU (l.getD j 0) = true) : digV l j ≤ 9 ∧ ((l.getD j 0).toNat : Int) - 48 = (digV l j : Int) ∧ (((l.getD j 0).toNat : Int) - 48) % 256 = (digV l j : Int) := by
  have := digU_range h
  unfold digV
  omega
/-- digits read on: at most so many are taken. -/
def accD (l : List UInt8) (q v0 cap : Nat) : Nat → Nat
  | 0 => v0
  | j + 1 => if j < cap then 10 * accD l q v0 cap j + digV l (q + j) else accD l q v0 cap j
theorem accD_bound (l : List UInt8) (q v0 cap : Nat) : ∀ j, (∀ i, i < j → digV l (q + i) ≤ 9) → accD l q v0 cap j + 1 ≤ (v0 + 1) * 10 ^ (min j cap)
  | 0, _ => by simp [accD]
  | j + 1, h => by
    have ih := accD_bound l q v0 cap j (fun i hi => h i (by omega))
    have hd := h j (by omega)
    rw [accD]
    by_cases hc : j < cap
    · rw [if_pos hc, show min (j + 1) cap = j + 1 by omega, Nat.pow_succ]
      rw [show min j cap = j by omega] at ih
      generalize 10 ^ j = t at *
      rw [← Nat.mul_assoc]
      omega
    · rw [if_neg hc, show min (j + 1) cap = min j cap by omega]; exact ih
theorem pow10_le {a b : Nat} (h : a ≤ b) : 10 ^ a ≤ 10 ^ b := Nat.pow_le_pow_right (by decide) h
theorem accD_lt (l : List UInt8) (q v0 cap j m : Nat) (h : ∀ i, i < j → digV l (q + i) ≤ 9) (hv : v0 + 1 ≤ m) : accD l q v0 cap j + 1 ≤ m * 10 ^ cap :=
  Nat.le_trans (accD_bound l q v0 cap j h) (Nat.mul_le_mul hv (pow10_le (Nat.min_le_right _ _)))
theorem accD_lt' (l : List UInt8) (q v0 cap j m : Nat) (h : ∀ i, i < j → digV l (q + i) ≤ 9) (hv : v0 + 1 ≤ m) : accD l q v0 cap j + 1 ≤ m * 10 ^ j :=
  Nat.le_trans (accD_bound l q v0 cap j h) (Nat.mul_le_mul hv (pow10_le (Nat.min_le_left _ _)))
/-- is there a sign? -/
def signAt (l : List UInt8) : Nat := if 0 < l.length ∧ ((l.getD 0 0).toNat = 45 ∨ (l.getD 0 0).toNat = 43) then 1 else 0
def negAt (l : List UInt8) : Bool := decide (0 < l.length ∧ (l.getD 0 0).toNat = 45)
/-- the fixed number of so many millionths. -/
def millionths (neg : Bool) (n : Nat) : Int := ((if neg = true then -(n : Int) else (n : Int)) * 65536 + 500000) / 1000000
def finD (at_ : Nat) (neg : Bool) (n ahead behind : Nat) : Int × Int :=
  if ahead + behind = 0 ∨ 8 < ahead ∨ 6 < behind then (0, 0)
  else if -1099511627776 ≤ millionths neg (n * 10 ^ (6 - behind)) ∧ millionths neg (n * 10 ^ (6 - behind)) ≤ 1099511627776 then ((at_ : Int), millionths neg (n * 10 ^ (6 - behind))) else (0, 0)
/-- a number from the front of a text. -/
def decimalP (l : List UInt8) : Int × Int :=
  if digEnd l (signAt l) + 1 < l.length ∧ (l.getD (digEnd l (signAt l)) 0).toNat = 46 ∧ digU (l.getD (digEnd l (signAt l) + 1) 0) = true then
    finD (digEnd l (digEnd l (signAt l) + 1)) (negAt l) (accD l (digEnd l (signAt l) + 1) (accD l (signAt l) 0 9 (digEnd l (signAt l) - signAt l)) 6 (digEnd l (digEnd l (signAt l) + 1) - (digEnd l (signAt l) + 1))) (digEnd l (signAt l) - signAt l) (digEnd l (digEnd l (signAt l) + 1) - (digEnd l (signAt l) + 1))
  else finD (digEnd l (signAt l)) (negAt l) (accD l (signAt l) 0 9 (digEnd l (signAt l) - signAt l)) (digEnd l (signAt l) - signAt l) 0
/-- a text that is one number. -/
def readP (l : List UInt8) : Int × Bool := if (decimalP l).1 = 0 then (0, false) else if (decimalP l).1 < (l.length : Int) then (0, false) else ((decimalP l).2, true)
end Go.Proofs.YtooilehdljeepaaDoor.Plain
