/- Plain lemmas on bits. -/
import Derived.Laws.BitsLemmas
import Derived.Laws.BitsAllLaws
import Derived.Test.YtfogfjmkngoegaaPlain
set_option linter.unusedVariables false
set_option linter.unusedSimpArgs false
namespace Go.Proofs.Ytfogfjmkngoegaa.Plain
open Go.RowKit
theorem wraps_u32 (n : Int) (h0 : 0 ≤ n) (h1 : n < 2 ^ 32) : IntKind.u32.wrap n = n := by
  simp [IntKind.wrap, IntKind.bits, IntKind.signed]; omega
theorem wraps_u64 (n : Int) (h0 : 0 ≤ n) (h1 : n < 2 ^ 64) : IntKind.u64.wrap n = n := by
  simp [IntKind.wrap, IntKind.bits, IntKind.signed]; omega
theorem wrap_u64 (n : Int) : IntKind.u64.wrap n = n % 18446744073709551616 := by simp [IntKind.wrap, IntKind.bits, IntKind.signed]
theorem wrap_u32 (n : Int) : IntKind.u32.wrap n = n % 4294967296 := by simp [IntKind.wrap, IntKind.bits, IntKind.signed]
theorem u64_id (n : Int) (h0 : 0 ≤ n) (h1 : n < 18446744073709551616) : IntKind.u64.wrap n = n := by rw [wrap_u64]; omega
theorem u32_join16 (x y : Int) (hx0 : 0 ≤ x) (hx : x % 65536 = 0) (hx1 : x < 4294967296) (hy0 : 0 ≤ y) (hy : y < 65536) : Go.bits .or .u32 x y = x + y :=
  bits_join .u32 32 (by decide) wraps_u32 16 x y hx0 (by simpa using hx) (by simpa using hx1) hy0 (by simpa using hy) (by omega)
theorem u64_join32 (x y : Int) (hx0 : 0 ≤ x) (hx : x % 4294967296 = 0) (hx1 : x < 18446744073709551616) (hy0 : 0 ≤ y) (hy : y < 4294967296) : Go.bits .or .u64 x y = x + y :=
  bits_join .u64 64 (by decide) wraps_u64 32 x y hx0 (by simpa using hx) (by simpa using hx1) hy0 (by simpa using hy) (by omega)
theorem bits_xor_comm (k : IntKind) (x y : Int) : Go.bits .xor k x y = Go.bits .xor k y x := by
  simp only [Go.bits]; rw [BitVec.xor_comm]
theorem compl_u8 (n : Int) (h0 : 0 ≤ n) (h1 : n < 256) : Go.bits .xor .u8 255 n = 255 - n := by
  have e : BitVec.ofInt IntKind.u8.bits 255 = BitVec.allOnes 8 := (by decide : BitVec.ofInt 8 255 = BitVec.allOnes 8)
  simp only [Go.bits]
  rw [e]
  have e2 : (BitVec.allOnes 8 ^^^ BitVec.ofInt 8 n) = ~~~ (BitVec.ofInt 8 n) := BitVec.allOnes_xor
  have e3 : (BitVec.ofInt 8 n).toNat = n.toNat := by rw [BitVec.toNat_ofInt]; omega
  have e4 : (~~~ (BitVec.ofInt 8 n)).toNat = 255 - n.toNat := by rw [BitVec.toNat_not, e3]
  show IntKind.u8.wrap ((BitVec.allOnes 8 ^^^ BitVec.ofInt 8 n).toNat : Int) = _
  rw [e2, e4]
  simp [IntKind.wrap, IntKind.bits, IntKind.signed]; omega
theorem compl_i64 (n : Int) (h0 : 0 ≤ n) (h1 : n < 9223372036854775808) : Go.bits .xor .i64 (-1) n = -1 - n := by
  have e : BitVec.ofInt IntKind.i64.bits (-1) = BitVec.allOnes 64 := (by decide : BitVec.ofInt 64 (-1) = BitVec.allOnes 64)
  simp only [Go.bits]
  rw [e]
  have e2 : (BitVec.allOnes 64 ^^^ BitVec.ofInt 64 n) = ~~~ (BitVec.ofInt 64 n) := BitVec.allOnes_xor
  have e3 : (BitVec.ofInt 64 n).toNat = n.toNat := by rw [BitVec.toNat_ofInt]; omega
  have e4 : (~~~ (BitVec.ofInt 64 n)).toNat = 18446744073709551615 - n.toNat := by rw [BitVec.toNat_not, e3]
  show IntKind.i64.wrap ((BitVec.allOnes 64 ^^^ BitVec.ofInt 64 n).toNat : Int) = _
  rw [e2, e4]
  simp [IntKind.wrap, IntKind.bits, IntKind.signed]; omega
end Go.Proofs.Ytfogfjmkngoegaa.Plain
