/- Plain words: ends of texts, gaps between numbers. -/
import Derived.Test.YtfjabcfmcnphcaaDoorNumEnd
import Derived.Test.YtfjabcfmcnphcaaDoorTrim
set_option linter.unusedVariables false
set_option linter.unusedSimpArgs false
namespace Go.Proofs.YtfjabcfmcnphcaaDoor.Plain
open Go.RowKit Go.Proofs.YtfjabcfmcnphcaaDoorW.PrintWords
theorem getD_drop (l : List UInt8) (p i : Nat) : (l.drop p).getD i 0 = l.getD (p + i) 0 := by
  rw [List.getD_eq_getElem?_getD, List.getD_eq_getElem?_getD, List.getElem?_drop]
theorem runEnd_drop (u : UInt8 → Bool) (l : List UInt8) (p q : Nat) : runEnd u l (p + q) = p + runEnd u (l.drop p) q := by
  unfold runEnd; rw [List.drop_drop]; omega
theorem digEnd_drop (l : List UInt8) (p q : Nat) : digEnd l (p + q) = p + digEnd (l.drop p) q := runEnd_drop digU l p q
theorem ofL_size (l : List UInt8) : (ofL l).size = l.length := by rw [← B_len, B_ofL]
theorem ofL_from (l : List UInt8) (a : Nat) : (ofL l).extract a (ofL l).size = ofL (l.drop a) := by
  apply B_ext
  rw [B_extract, B_ofL, B_ofL, List.take_of_length_le (by rw [List.length_drop, ofL_size]; omega)]
theorem bt_ofL (l : List UInt8) (i : Nat) (h : i < l.length) : bt (ofL l) (i : Int) = ((l.getD i 0).toNat : Int) := by
  have := bt_U (ofL l) i (by rw [B_ofL]; exact h)
  rw [B_ofL] at this
  exact this
/-- where a gap ends: blanks, one comma, blanks. -/
def gapEnd (l : List UInt8) (p : Nat) : Nat :=
  if runEnd blankU l p < l.length ∧ (l.getD (runEnd blankU l p) 0).toNat = 44 then runEnd blankU l (runEnd blankU l p + 1) else runEnd blankU l p
theorem gapEnd_ge (l : List UInt8) (p : Nat) : p ≤ gapEnd l p := by
  have h1 := runEnd_ge blankU l p
  have h2 := runEnd_ge blankU l (runEnd blankU l p + 1)
  unfold gapEnd; split <;> omega
theorem gapEnd_le (l : List UInt8) (p : Nat) (h : p ≤ l.length) : gapEnd l p ≤ l.length := by
  unfold gapEnd; split
  · rename_i hc; exact runEnd_le blankU l _ (by omega)
  · exact runEnd_le blankU l p h
theorem gapEnd_drop (l : List UInt8) (p q : Nat) (hp : p ≤ l.length) : gapEnd l (p + q) = p + gapEnd (l.drop p) q := by
  unfold gapEnd
  rw [runEnd_drop blankU l p q]
  have e : (p + runEnd blankU (l.drop p) q < l.length ∧ (l.getD (p + runEnd blankU (l.drop p) q) 0).toNat = 44) ↔ (runEnd blankU (l.drop p) q < (l.drop p).length ∧ ((l.drop p).getD (runEnd blankU (l.drop p) q) 0).toNat = 44) := by
    rw [getD_drop, List.length_drop]
    constructor
    · rintro ⟨h1, h2⟩; exact ⟨by omega, h2⟩
    · rintro ⟨h1, h2⟩; exact ⟨by omega, h2⟩
  by_cases h : runEnd blankU (l.drop p) q < (l.drop p).length ∧ ((l.drop p).getD (runEnd blankU (l.drop p) q) 0).toNat = 44
  · rw [if_pos (e.2 h), if_pos h, Nat.add_assoc, runEnd_drop]
  · rw [if_neg (fun hh => h (e.1 hh)), if_neg h]
end Go.Proofs.YtfjabcfmcnphcaaDoor.Plain
