/- Plain lemmas on texts as lists of bytes. -/
import Derived.Lib.Strings
import Derived.Test.YthfbpmjcjiihnaaGreatDoorVWords
import Derived.Test.YthfbpmjcjiihnaaGreatDoorEvs
set_option linter.unusedVariables false
set_option linter.unusedSimpArgs false
namespace Go.Proofs.YthfbpmjcjiihnaaGreatDoor.Plain
open Go.RowKit Go.Proofs.YthfbpmjcjiihnaaGreatDoorW.PrintWords

/-- a text's bytes. -/
def B (s : ByteArray) : List UInt8 := s.data.toList
theorem B_len (s : ByteArray) : (B s).length = s.size := by unfold B; rw [Array.length_toList]; rfl
theorem B_ext {a b : ByteArray} (h : B a = B b) : a = b := bytes_ext h
theorem B_extract (s : ByteArray) (i j : Nat) : B (s.extract i j) = ((B s).drop i).take (j - i) := by
  unfold B; rw [Go.Lib.extract_data]
theorem B_append (a b : ByteArray) : B (a ++ b) = B a ++ B b := by unfold B; simp
theorem bt_B (s : ByteArray) (i : Nat) (h : i < s.size) : bt s (i : Int) = (((B s).getD i 0).toNat : Int) := by
  have hl : i < (B s).length := by rw [B_len]; exact h
  unfold bt
  rw [dif_pos (by simpa using h), List.getD_eq_getElem?_getD, List.getElem?_eq_getElem hl]
  simp [B]; rfl
theorem toList_B (s : ByteArray) : s.toList = B s := Go.Lib.toList_data s
theorem u8_nat {a : UInt8} {n : Nat} (hn : n < 256) : ((a.toNat : Int) = (n : Int)) ↔ a = UInt8.ofNat n := by
  constructor
  · intro h
    have h' : a.toNat = n := by omega
    apply UInt8.toNat_inj.1
    rw [h', UInt8.toNat_ofNat']; omega
  · rintro rfl
    rw [UInt8.toNat_ofNat']; omega
end Go.Proofs.YthfbpmjcjiihnaaGreatDoor.Plain
