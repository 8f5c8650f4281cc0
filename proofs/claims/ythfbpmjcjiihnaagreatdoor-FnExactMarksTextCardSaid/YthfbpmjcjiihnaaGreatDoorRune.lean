/- Plain words: runes at the front of texts. -/
import Derived.Test.YthfbpmjcjiihnaaGreatDoorWord
import Derived.Lib.DecodeN
import Derived.Shelf.Unicode.DecodeSlow
set_option linter.unusedVariables false
set_option linter.unusedSimpArgs false
set_option maxRecDepth 20000
namespace Go.Proofs.YthfbpmjcjiihnaaGreatDoor.Plain
open Go.RowKit Go.Proofs.YthfbpmjcjiihnaaGreatDoorW.PrintWords
open Go.Lib (decodeN)
/-- the rune and its width; -1 where it is none. -/
def fixR (d : Nat × Nat) : Int × Int := if d.1 = 65533 ∧ d.2 = 1 then (-1, 1) else ((d.1 : Int), (d.2 : Int))
theorem fixR_bad {d : Nat × Nat} (h : d = (65533, 1)) : fixR d = (-1, 1) := by rw [h]; rfl
theorem fixR_ok {d : Nat × Nat} {x n : Nat} (h : d = (x, n)) (h1 : ¬ (x = 65533 ∧ n = 1)) : fixR d = ((x : Int), (n : Int)) := by rw [h]; unfold fixR; rw [if_neg h1]
section
variable {n b0 b1 b2 b3 : Nat}
theorem dec_1 (h : b0 < 128) : decodeN n b0 b1 b2 b3 = (b0, 1) := by unfold decodeN; rw [if_pos h]
theorem dec_0 (h1 : ¬ b0 < 128) (h2 : ¬ (194 ≤ b0 ∧ b0 ≤ 244)) (h3 : b0 < 256) : decodeN n b0 b1 b2 b3 = (65533, 1) := by
  unfold decodeN
  rw [if_neg h1]
  repeat' split
  all_goals first | (exfalso; omega) | rfl
theorem dec_2 (h : 194 ≤ b0 ∧ b0 ≤ 223) (hb : b1 < 256) : decodeN n b0 b1 b2 b3 = if 1 < n ∧ (128 ≤ b1 ∧ b1 ≤ 191) then ((b0 - 192) * 64 + (b1 - 128), 2) else (65533, 1) := by
  unfold decodeN
  rw [if_neg (by omega)]
  by_cases hc : 1 < n ∧ (128 ≤ b1 ∧ b1 ≤ 191)
  · rw [if_pos ⟨by omega, hc.1, by omega⟩, if_pos hc, if_pos (by omega)]
    congr 1; omega
  · rw [if_neg (by omega), if_neg (by omega), if_neg (by omega), if_neg hc]
theorem dec_3 (h : 224 ≤ b0 ∧ b0 ≤ 239) (hb1 : b1 < 256) (hb2 : b2 < 256) : decodeN n b0 b1 b2 b3 = if (1 < n ∧ (128 ≤ b1 ∧ b1 ≤ 191)) ∧ (2 < n ∧ (128 ≤ b2 ∧ b2 ≤ 191)) then (if ((b0 - 224) * 64 + (b1 - 128)) * 64 + (b2 - 128) < 2048 ∨ (55296 ≤ ((b0 - 224) * 64 + (b1 - 128)) * 64 + (b2 - 128) ∧ ((b0 - 224) * 64 + (b1 - 128)) * 64 + (b2 - 128) ≤ 57343) then (65533, 1) else (((b0 - 224) * 64 + (b1 - 128)) * 64 + (b2 - 128), 3)) else (65533, 1) := by
  unfold decodeN
  rw [if_neg (by omega), if_neg (by omega)]
  by_cases hc : (1 < n ∧ (128 ≤ b1 ∧ b1 ≤ 191)) ∧ (2 < n ∧ (128 ≤ b2 ∧ b2 ≤ 191))
  · have e : b0 % 16 * 4096 + b1 % 64 * 64 + b2 % 64 = ((b0 - 224) * 64 + (b1 - 128)) * 64 + (b2 - 128) := by omega
    rw [if_pos ⟨by omega, ⟨hc.1.1, by omega⟩, hc.2.1, by omega⟩, if_pos hc, e]
    generalize ((b0 - 224) * 64 + (b1 - 128)) * 64 + (b2 - 128) = x at *
    have hx : x ≤ 65535 := by omega
    by_cases h2 : x < 2048 ∨ (55296 ≤ x ∧ x ≤ 57343)
    · rw [if_neg (by omega), if_pos h2]
    · rw [if_pos (by omega), if_neg h2]
  · rw [if_neg (by omega), if_neg (by omega), if_neg hc]
theorem dec_4 (h : 240 ≤ b0 ∧ b0 ≤ 244) (hb1 : b1 < 256) (hb2 : b2 < 256) (hb3 : b3 < 256) : decodeN n b0 b1 b2 b3 = if (1 < n ∧ (128 ≤ b1 ∧ b1 ≤ 191)) ∧ (2 < n ∧ (128 ≤ b2 ∧ b2 ≤ 191)) ∧ (3 < n ∧ (128 ≤ b3 ∧ b3 ≤ 191)) then (if 65536 ≤ (((b0 - 240) * 64 + (b1 - 128)) * 64 + (b2 - 128)) * 64 + (b3 - 128) ∧ (((b0 - 240) * 64 + (b1 - 128)) * 64 + (b2 - 128)) * 64 + (b3 - 128) ≤ 1114111 then ((((b0 - 240) * 64 + (b1 - 128)) * 64 + (b2 - 128)) * 64 + (b3 - 128), 4) else (65533, 1)) else (65533, 1) := by
  unfold decodeN
  rw [if_neg (by omega), if_neg (by omega), if_neg (by omega)]
  by_cases hc : (1 < n ∧ (128 ≤ b1 ∧ b1 ≤ 191)) ∧ (2 < n ∧ (128 ≤ b2 ∧ b2 ≤ 191)) ∧ (3 < n ∧ (128 ≤ b3 ∧ b3 ≤ 191))
  · have e : b0 % 8 * 262144 + b1 % 64 * 4096 + b2 % 64 * 64 + b3 % 64 = (((b0 - 240) * 64 + (b1 - 128)) * 64 + (b2 - 128)) * 64 + (b3 - 128) := by omega
    rw [if_pos ⟨by omega, ⟨hc.1.1, by omega⟩, ⟨hc.2.1.1, by omega⟩, hc.2.2.1, by omega⟩, if_pos hc, e]
    generalize (((b0 - 240) * 64 + (b1 - 128)) * 64 + (b2 - 128)) * 64 + (b3 - 128) = x at *
    by_cases h2 : 65536 ≤ x ∧ x ≤ 1114111
    · rw [if_pos (by omega), if_pos h2]
    · rw [if_neg (by omega), if_neg h2]
  · rw [if_neg (by omega), if_neg hc]
end
theorem get_B (s : ByteArray) (i : Nat) : s.get! i = (B s).getD i 0 := by
  cases s with
  | mk d =>
    show d[i]! = d.toList.getD i 0
    rw [List.getD_eq_getElem?_getD, Array.getElem?_toList]
    by_cases h : i < d.size
    · rw [getElem!_pos d i h, Array.getElem?_eq_getElem h]; rfl
    · rw [getElem!_neg d i h, Array.getElem?_eq_none (by omega)]; rfl
/-- a text's bytes as numbers. -/
def nb (l : List UInt8) (i : Nat) : Nat := (l.getD i 0).toNat
theorem nb_lt (l : List UInt8) (i : Nat) : nb l i < 256 := (l.getD i 0).toNat_lt
def decP (l : List UInt8) : Nat × Nat := decodeN l.length (nb l 0) (nb l 1) (nb l 2) (nb l 3)
theorem decodeGo_B (s : ByteArray) (h : 0 < (B s).length) : Go.Lib.decodeGo s = decP (B s) := by
  have hl := B_len s
  unfold Go.Lib.decodeGo decP nb
  rw [if_neg (by omega), Go.Lib.decode_at]
  simp only [get_B, hl, Nat.sub_zero, Nat.zero_add]
/-- the rune at the front of a text that is not empty. -/
def runeP (l : List UInt8) : Int × Int := fixR (decP l)
theorem decP_width (l : List UInt8) (h : 0 < l.length) : 1 ≤ (decP l).2 ∧ (decP l).2 ≤ l.length := by
  unfold decP decodeN
  repeat' split
  all_goals (simp only; omega)
theorem decP_may (l : List UInt8) : (decP l).1 ≤ 1114111 ∧ ((decP l).1 < 55296 ∨ 57343 < (decP l).1) := by
  have h0 := nb_lt l 0
  unfold decP decodeN
  repeat' split
  all_goals (simp only; omega)
end Go.Proofs.YthfbpmjcjiihnaaGreatDoor.Plain
