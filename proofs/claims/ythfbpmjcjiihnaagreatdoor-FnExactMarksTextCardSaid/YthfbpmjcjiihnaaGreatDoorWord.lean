/- Plain words: bytes of words, runs of them. -/
import Derived.Test.YthfbpmjcjiihnaaGreatDoorStr
set_option linter.unusedVariables false
set_option linter.unusedSimpArgs false
namespace Go.Proofs.YthfbpmjcjiihnaaGreatDoor.Plain
open Go.RowKit Go.Proofs.YthfbpmjcjiihnaaGreatDoorW.PrintWords

def digI (c : Int) : Bool := decide (48 ≤ c ∧ c ≤ 57)
def ltrI (c : Int) : Bool := decide ((97 ≤ c ∧ c ≤ 122) ∨ (65 ≤ c ∧ c ≤ 90))
def wordI (c : Int) : Bool := ltrI c || digI c || decide (c = 95) || decide (c = 45)
def digU (c : UInt8) : Bool := digI (c.toNat : Int)
def wordU (c : UInt8) : Bool := wordI (c.toNat : Int)
/-- where a run of bytes that fit ends, from a place on. -/
def runEnd (p : UInt8 → Bool) (l : List UInt8) (i : Nat) : Nat := i + ((l.drop i).takeWhile p).length
theorem runEnd_le (p : UInt8 → Bool) (l : List UInt8) (i : Nat) (h : i ≤ l.length) : runEnd p l i ≤ l.length := by
  unfold runEnd
  have h1 := (List.takeWhile_sublist p (l := l.drop i)).length_le
  rw [List.length_drop] at h1
  omega
theorem runEnd_ge (p : UInt8 → Bool) (l : List UInt8) (i : Nat) : i ≤ runEnd p l i := by unfold runEnd; omega
theorem runEnd_yes (p : UInt8 → Bool) (l : List UInt8) (i : Nat) (h : i < l.length) (hp : p (l.getD i 0) = true) : runEnd p l i = runEnd p l (i + 1) := by
  unfold runEnd
  rw [drop_cons l 0 i h, List.takeWhile_cons, if_pos hp, List.length_cons]; omega
theorem runEnd_no (p : UInt8 → Bool) (l : List UInt8) (i : Nat) (h : i < l.length) (hp : ¬ p (l.getD i 0) = true) : runEnd p l i = i := by
  unfold runEnd
  rw [drop_cons l 0 i h, List.takeWhile_cons, if_neg hp]; rfl
theorem runEnd_end (p : UInt8 → Bool) (l : List UInt8) (i : Nat) (h : l.length ≤ i) : runEnd p l i = i := by
  unfold runEnd
  rw [List.drop_eq_nil_of_le h]; rfl
theorem takeWhile_all {p : UInt8 → Bool} {l : List UInt8} : (l.takeWhile p).length = l.length ↔ l.all p = true := by
  induction l with
  | nil => simp
  | cons x l ih =>
    rw [List.takeWhile_cons, List.all_cons]
    cases hp : p x with
    | true => simp only [if_true, List.length_cons, Bool.true_and]; rw [← ih]; omega
    | false => simp
theorem runEnd_all (p : UInt8 → Bool) (l : List UInt8) : runEnd p l 0 = l.length ↔ l.all p = true := by
  unfold runEnd
  rw [List.drop_zero, Nat.zero_add]
  exact takeWhile_all
/-- a word: 1..30 bytes of words, the first one no digit. -/
def isWordL (l : List UInt8) : Bool := decide (1 ≤ l.length ∧ l.length ≤ 30) && !(digU (l.getD 0 0)) && l.all wordU
theorem bt_U (s : ByteArray) (i : Nat) (h : i < (B s).length) : bt s (i : Int) = (((B s).getD i 0).toNat : Int) := bt_B s i (by rw [← B_len]; exact h)
end Go.Proofs.YthfbpmjcjiihnaaGreatDoor.Plain
