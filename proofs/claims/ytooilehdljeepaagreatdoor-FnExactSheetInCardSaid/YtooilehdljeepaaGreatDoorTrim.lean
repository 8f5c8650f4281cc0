/- Plain words: texts without blanks around them. -/
import Derived.Test.YtooilehdljeepaaGreatDoorWord
import Derived.Lib.SlTrimSet
set_option linter.unusedVariables false
set_option linter.unusedSimpArgs false
namespace Go.Proofs.YtooilehdljeepaaGreatDoor.Plain
open Go.RowKit Go.Proofs.YtooilehdljeepaaGreatDoorW.PrintWords
def blankU (c : UInt8) : Bool := ([9, 10, 13, 32] : List UInt8).contains c
def dropL (l : List UInt8) : List UInt8 := l.dropWhile blankU
def dropR (l : List UInt8) : List UInt8 := (l.reverse.dropWhile blankU).reverse
theorem dropR_snoc (l : List UInt8) (x : UInt8) : dropR (l ++ [x]) = if blankU x = true then dropR l else l ++ [x] := by
  unfold dropR
  rw [List.reverse_append]
  simp only [List.reverse_cons, List.reverse_nil, List.nil_append, List.cons_append, List.dropWhile_cons]
  split
  · rfl
  · simp
theorem dropR_nil : dropR [] = [] := rfl
theorem dropR_cons (x : UInt8) (l : List UInt8) : dropR (x :: l) = if dropR l = [] ∧ blankU x = true then [] else x :: dropR l := by
  unfold dropR
  rw [List.reverse_cons, List.dropWhile_append]
  by_cases h : l.reverse.dropWhile blankU = []
  · rw [h]
    by_cases hx : blankU x = true
    · simp [hx]
    · simp [hx]
  · have h2 : (l.reverse.dropWhile blankU).isEmpty = false := by
      cases e : l.reverse.dropWhile blankU with
      | nil => exact absurd e h
      | cons _ _ => rfl
    rw [h2]
    simp [h]
theorem dropL_dropR (l : List UInt8) : dropL (dropR l) = dropR (dropL l) := by
  induction l with
  | nil => rfl
  | cons x l ih =>
    by_cases hx : blankU x = true
    · have e : dropL (x :: l) = dropL l := by unfold dropL; rw [List.dropWhile_cons, if_pos hx]
      rw [e, dropR_cons]
      by_cases h : dropR l = []
      · rw [if_pos ⟨h, hx⟩, ← ih, h]
      · rw [if_neg (fun hh => h hh.1)]
        have e2 : dropL (x :: dropR l) = dropL (dropR l) := by unfold dropL; rw [List.dropWhile_cons, if_pos hx]
        rw [e2, ih]
    · have e : dropL (x :: l) = x :: l := by unfold dropL; rw [List.dropWhile_cons, if_neg hx]
      have e2 : dropL (x :: dropR l) = x :: dropR l := by unfold dropL; rw [List.dropWhile_cons, if_neg hx]
      rw [e, dropR_cons, if_neg (fun hh => hx hh.2), e2]
def ofL (l : List UInt8) : ByteArray := ⟨l.toArray⟩
theorem B_ofL (l : List UInt8) : B (ofL l) = l := by unfold B ofL; rfl
theorem ofL_B (s : ByteArray) : ofL (B s) = s := B_ext (B_ofL _)
theorem trimS_drop (l : List UInt8) : Go.Lib.trimS l [9, 10, 13, 32] = dropL (dropR l) := rfl
theorem dropWhile_len (p : UInt8 → Bool) (l : List UInt8) : (l.dropWhile p).length ≤ l.length := (List.dropWhile_sublist p).length_le
theorem dropL_len (l : List UInt8) : (dropL l).length ≤ l.length := dropWhile_len _ _
theorem dropR_len (l : List UInt8) : (dropR l).length ≤ l.length := by
  unfold dropR
  have := dropWhile_len blankU l.reverse
  simp only [List.length_reverse] at this ⊢
  exact this
end Go.Proofs.YtooilehdljeepaaGreatDoor.Plain
