/- Plain words: names of marks, texts without bad runes. -/
import Derived.Test.YthfbpmjcjiihnaaGreatDoorRune
set_option linter.unusedVariables false
set_option linter.unusedSimpArgs false
namespace Go.Proofs.YthfbpmjcjiihnaaGreatDoor.Plain
open Go.RowKit Go.Proofs.YthfbpmjcjiihnaaGreatDoorW.PrintWords
def nmBI (c : Int) : Bool := ltrI c || decide (c = 95)
def nmI (c : Int) : Bool := nmBI c || digI c || decide (c = 45) || decide (c = 58) || decide (c = 46)
def nmB (c : UInt8) : Bool := nmBI (c.toNat : Int)
def nmU (c : UInt8) : Bool := nmI (c.toNat : Int)
theorem nmB_U {c : UInt8} (h : nmB c = true) : nmU c = true := by unfold nmU nmI; unfold nmB at h; rw [h]; rfl
/-- a mark's name: 1..30 bytes, the first one may begin. -/
def isNameL (l : List UInt8) : Bool := decide (1 ≤ l.length ∧ l.length ≤ 30) && nmB (l.getD 0 0) && l.all nmU
/-- may a rune stand in a text? -/
def mayR (r : Int) : Bool := decide (r = 9 ∨ r = 10 ∨ r = 13 ∨ 32 ≤ r)
theorem runeP_width (l : List UInt8) (h : 0 < l.length) : 1 ≤ (runeP l).2 ∧ (runeP l).2 ≤ (l.length : Int) := by
  have := decP_width l h
  unfold runeP fixR
  split
  · simp only; omega
  · simp only; omega
/-- the first place from 'at' on that has a bad byte or rune, -1 if there is none. -/
def badFrom (l : List UInt8) : Nat → Nat → Int
  | 0, _ => -1
  | n + 1, p => if p < l.length then (if mayR (runeP (l.drop p)).1 = true then badFrom l n (p + (runeP (l.drop p)).2.toNat) else (p : Int)) else -1
def badP (l : List UInt8) : Int := badFrom l (l.length + 1) 0
/-- a text without bad runes. -/
def textOk (l : List UInt8) : Bool := decide (badP l < 0)
end Go.Proofs.YthfbpmjcjiihnaaGreatDoor.Plain
