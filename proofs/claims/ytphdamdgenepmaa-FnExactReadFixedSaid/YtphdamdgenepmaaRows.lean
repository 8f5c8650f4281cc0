/-
  No cell of these rows narrows 'for every input' (looked for: loops, veiled, ifaces, maps, wideKeys, modest, calm, conditions, laid).
  DERIVED. THE GIVEN ROWS OF THIS SEAT. 11 by the template 'for every input the law returns true; each argument reads behind the call as it read before'; 0 by the template 'total and deterministic' (their statements: YtphdamdgenepmaaTotals.lean).
  GIVEN WITH THE SEED: the statements are not yours to turn. If you find one false, say at which input.
  Laid BY PROGRAM, IN A SANDBOX (cutbox-rows.mjs): the forced cells as the released guide's own fill.sh prints them over the translation 548f83f99821c57a… (all of the seat's roots in one cut). By AI agents, Wed Nov 11 2026. No macro, syntax, notation, axiom, sorry.
-/
import Derived.Test.YtphdamdgenepmaaChecked
import GoSem.Claim
import GoSem.ClaimJoined
import GoSem.ClaimMapViews
import Derived.JoinedTies
import Derived.KernelRfl
namespace Go.Proofs.Ytphdamdgenepmaa
/- THE CELL 'sum', in the pinned program and in every row, IS THE sha256 OF THE DUMP (.gsa) THAT YtphdamdgenepmaaProg.lean LOADS. Nothing in Lean hashes anything: it is a label: what it is worth is what the hold of that sum in a sandbox is worth. -/
noncomputable def Try.pinned : Pinned := { name := "ytphdamdgenepmaa", sum := "548f83f99821c57a08db338c160f3ee6fc4131916b4a43261d5be7bd0b3c0877", checked := Try.checked }
namespace Rows
def none {H : Type} : Left H := { results := [], args := [] }

/-- 'laws.FnExactFixRoot': WHATEVER THE INPUT: true; the input reads as it did. -/
def fnExactFixRootSpec : ChangeSpec := { name := "fnExactFixRoot", fn := fun _ => fun
  | [d] => { results := [.lit (.bool true)], args := [d] }
  | _ => none }
def fnExactFixRootRow : OpenClaim := { program := "ytphdamdgenepmaa", sum := "548f83f99821c57a08db338c160f3ee6fc4131916b4a43261d5be7bd0b3c0877", func := "loop.example/g00137/laws.FnExactFixRoot", spec := "fnExactFixRoot", apart := false }
def FnExactFixRootSaid : Prop := fnExactFixRootRow.holds Try.pinned (OpenSpec.ofChange fnExactFixRootSpec)

/-- ITS FALSE NEIGHBOUR: 'it returns false'. Refute it at one input. -/
def fnExactFixRootWrong : ChangeSpec := { name := "fnExactFixRoot", fn := fun _ => fun
  | [d] => { results := [.lit (.bool false)], args := [d] }
  | _ => none }
def FnExactFixRootWrongFalsely : Prop := fnExactFixRootRow.holds Try.pinned (OpenSpec.ofChange fnExactFixRootWrong)

/-- 'laws.FnExactFixDiv': WHATEVER THE INPUT: true; the input reads as it did. -/
def fnExactFixDivSpec : ChangeSpec := { name := "fnExactFixDiv", fn := fun _ => fun
  | [d1, d2] => { results := [.lit (.bool true)], args := [d1, d2] }
  | _ => none }
def fnExactFixDivRow : OpenClaim := { program := "ytphdamdgenepmaa", sum := "548f83f99821c57a08db338c160f3ee6fc4131916b4a43261d5be7bd0b3c0877", func := "loop.example/g00137/laws.FnExactFixDiv", spec := "fnExactFixDiv", apart := false }
def FnExactFixDivSaid : Prop := fnExactFixDivRow.holds Try.pinned (OpenSpec.ofChange fnExactFixDivSpec)

/-- ITS FALSE NEIGHBOUR: 'it returns false'. Refute it at one input. -/
def fnExactFixDivWrong : ChangeSpec := { name := "fnExactFixDiv", fn := fun _ => fun
  | [d1, d2] => { results := [.lit (.bool false)], args := [d1, d2] }
  | _ => none }
def FnExactFixDivWrongFalsely : Prop := fnExactFixDivRow.holds Try.pinned (OpenSpec.ofChange fnExactFixDivWrong)

/-- 'laws.FnExactFixMul': WHATEVER THE INPUT: true; the input reads as it did. -/
def fnExactFixMulSpec : ChangeSpec := { name := "fnExactFixMul", fn := fun _ => fun
  | [d1, d2] => { results := [.lit (.bool true)], args := [d1, d2] }
  | _ => none }
def fnExactFixMulRow : OpenClaim := { program := "ytphdamdgenepmaa", sum := "548f83f99821c57a08db338c160f3ee6fc4131916b4a43261d5be7bd0b3c0877", func := "loop.example/g00137/laws.FnExactFixMul", spec := "fnExactFixMul", inPlace := ["math/bits.Add64"], apart := false }
def FnExactFixMulSaid : Prop := fnExactFixMulRow.holds Try.pinned (OpenSpec.ofChange fnExactFixMulSpec)

/-- ITS FALSE NEIGHBOUR: 'it returns false'. Refute it at one input. -/
def fnExactFixMulWrong : ChangeSpec := { name := "fnExactFixMul", fn := fun _ => fun
  | [d1, d2] => { results := [.lit (.bool false)], args := [d1, d2] }
  | _ => none }
def FnExactFixMulWrongFalsely : Prop := fnExactFixMulRow.holds Try.pinned (OpenSpec.ofChange fnExactFixMulWrong)

/-- 'laws.FnExactMulAffine': WHATEVER THE INPUT: true; the input reads as it did. -/
def fnExactMulAffineSpec : ChangeSpec := { name := "fnExactMulAffine", fn := fun _ => fun
  | [d1, d2] => { results := [.lit (.bool true)], args := [d1, d2] }
  | _ => none }
def fnExactMulAffineRow : OpenClaim := { program := "ytphdamdgenepmaa", sum := "548f83f99821c57a08db338c160f3ee6fc4131916b4a43261d5be7bd0b3c0877", func := "loop.example/g00137/laws.FnExactMulAffine", spec := "fnExactMulAffine", inPlace := ["math/bits.Add64"], apart := false }
def FnExactMulAffineSaid : Prop := fnExactMulAffineRow.holds Try.pinned (OpenSpec.ofChange fnExactMulAffineSpec)

/-- ITS FALSE NEIGHBOUR: 'it returns false'. Refute it at one input. -/
def fnExactMulAffineWrong : ChangeSpec := { name := "fnExactMulAffine", fn := fun _ => fun
  | [d1, d2] => { results := [.lit (.bool false)], args := [d1, d2] }
  | _ => none }
def FnExactMulAffineWrongFalsely : Prop := fnExactMulAffineRow.holds Try.pinned (OpenSpec.ofChange fnExactMulAffineWrong)

/-- 'laws.FnExactReadFixed': WHATEVER THE INPUT: true; the input reads as it did. -/
def fnExactReadFixedSpec : ChangeSpec := { name := "fnExactReadFixed", fn := fun _ => fun
  | [d] => { results := [.lit (.bool true)], args := [d] }
  | _ => none }
def fnExactReadFixedRow : OpenClaim := { program := "ytphdamdgenepmaa", sum := "548f83f99821c57a08db338c160f3ee6fc4131916b4a43261d5be7bd0b3c0877", func := "loop.example/g00137/laws.FnExactReadFixed", spec := "fnExactReadFixed", apart := false }
def FnExactReadFixedSaid : Prop := fnExactReadFixedRow.holds Try.pinned (OpenSpec.ofChange fnExactReadFixedSpec)

/-- ITS FALSE NEIGHBOUR: 'it returns false'. Refute it at one input. -/
def fnExactReadFixedWrong : ChangeSpec := { name := "fnExactReadFixed", fn := fun _ => fun
  | [d] => { results := [.lit (.bool false)], args := [d] }
  | _ => none }
def FnExactReadFixedWrongFalsely : Prop := fnExactReadFixedRow.holds Try.pinned (OpenSpec.ofChange fnExactReadFixedWrong)

/-- 'laws.FnExactAdler32': WHATEVER THE INPUT: true; the input reads as it did. -/
def fnExactAdler32Spec : ChangeSpec := { name := "fnExactAdler32", fn := fun _ => fun
  | [d] => { results := [.lit (.bool true)], args := [d] }
  | _ => none }
def fnExactAdler32Row : OpenClaim := { program := "ytphdamdgenepmaa", sum := "548f83f99821c57a08db338c160f3ee6fc4131916b4a43261d5be7bd0b3c0877", func := "loop.example/g00137/laws.FnExactAdler32", spec := "fnExactAdler32", apart := false }
def FnExactAdler32Said : Prop := fnExactAdler32Row.holds Try.pinned (OpenSpec.ofChange fnExactAdler32Spec)

/-- ITS FALSE NEIGHBOUR: 'it returns false'. Refute it at one input. -/
def fnExactAdler32Wrong : ChangeSpec := { name := "fnExactAdler32", fn := fun _ => fun
  | [d] => { results := [.lit (.bool false)], args := [d] }
  | _ => none }
def FnExactAdler32WrongFalsely : Prop := fnExactAdler32Row.holds Try.pinned (OpenSpec.ofChange fnExactAdler32Wrong)

/-- 'laws.FnExactCrc32': WHATEVER THE INPUT: true; the input reads as it did. -/
def fnExactCrc32Spec : ChangeSpec := { name := "fnExactCrc32", fn := fun _ => fun
  | [d] => { results := [.lit (.bool true)], args := [d] }
  | _ => none }
def fnExactCrc32Row : OpenClaim := { program := "ytphdamdgenepmaa", sum := "548f83f99821c57a08db338c160f3ee6fc4131916b4a43261d5be7bd0b3c0877", func := "loop.example/g00137/laws.FnExactCrc32", spec := "fnExactCrc32", apart := false }
def FnExactCrc32Said : Prop := fnExactCrc32Row.holds Try.pinned (OpenSpec.ofChange fnExactCrc32Spec)

/-- ITS FALSE NEIGHBOUR: 'it returns false'. Refute it at one input. -/
def fnExactCrc32Wrong : ChangeSpec := { name := "fnExactCrc32", fn := fun _ => fun
  | [d] => { results := [.lit (.bool false)], args := [d] }
  | _ => none }
def FnExactCrc32WrongFalsely : Prop := fnExactCrc32Row.holds Try.pinned (OpenSpec.ofChange fnExactCrc32Wrong)

/-- 'laws.FnExactProperties': WHATEVER THE INPUT: true; the input reads as it did. -/
def fnExactPropertiesSpec : ChangeSpec := { name := "fnExactProperties", fn := fun _ => fun
  | [] => { results := [.lit (.bool true)], args := [] }
  | _ => none }
def fnExactPropertiesRow : OpenClaim := { program := "ytphdamdgenepmaa", sum := "548f83f99821c57a08db338c160f3ee6fc4131916b4a43261d5be7bd0b3c0877", func := "loop.example/g00137/laws.FnExactProperties", spec := "fnExactProperties", apart := false }
def FnExactPropertiesSaid : Prop := fnExactPropertiesRow.holds Try.pinned (OpenSpec.ofChange fnExactPropertiesSpec)

/-- ITS FALSE NEIGHBOUR: 'it returns false'. Refute it at one input. -/
def fnExactPropertiesWrong : ChangeSpec := { name := "fnExactProperties", fn := fun _ => fun
  | [] => { results := [.lit (.bool false)], args := [] }
  | _ => none }
def FnExactPropertiesWrongFalsely : Prop := fnExactPropertiesRow.holds Try.pinned (OpenSpec.ofChange fnExactPropertiesWrong)

/-- 'laws.FnExactCodesOf': WHATEVER THE INPUT: true; the input reads as it did. -/
def fnExactCodesOfSpec : ChangeSpec := { name := "fnExactCodesOf", fn := fun _ => fun
  | [d] => { results := [.lit (.bool true)], args := [d] }
  | _ => none }
def fnExactCodesOfRow : OpenClaim := { program := "ytphdamdgenepmaa", sum := "548f83f99821c57a08db338c160f3ee6fc4131916b4a43261d5be7bd0b3c0877", func := "loop.example/g00137/laws.FnExactCodesOf", spec := "fnExactCodesOf", apart := false }
def FnExactCodesOfSaid : Prop := fnExactCodesOfRow.holds Try.pinned (OpenSpec.ofChange fnExactCodesOfSpec)

/-- ITS FALSE NEIGHBOUR: 'it returns false'. Refute it at one input. -/
def fnExactCodesOfWrong : ChangeSpec := { name := "fnExactCodesOf", fn := fun _ => fun
  | [d] => { results := [.lit (.bool false)], args := [d] }
  | _ => none }
def FnExactCodesOfWrongFalsely : Prop := fnExactCodesOfRow.holds Try.pinned (OpenSpec.ofChange fnExactCodesOfWrong)

/-- 'laws.FnExactMatchAt': WHATEVER THE INPUT: true; the input reads as it did. -/
def fnExactMatchAtSpec : ChangeSpec := { name := "fnExactMatchAt", fn := fun _ => fun
  | [d1, d2] => { results := [.lit (.bool true)], args := [d1, d2] }
  | _ => none }
def fnExactMatchAtRow : OpenClaim := { program := "ytphdamdgenepmaa", sum := "548f83f99821c57a08db338c160f3ee6fc4131916b4a43261d5be7bd0b3c0877", func := "loop.example/g00137/laws.FnExactMatchAt", spec := "fnExactMatchAt", apart := false }
def FnExactMatchAtSaid : Prop := fnExactMatchAtRow.holds Try.pinned (OpenSpec.ofChange fnExactMatchAtSpec)

/-- ITS FALSE NEIGHBOUR: 'it returns false'. Refute it at one input. -/
def fnExactMatchAtWrong : ChangeSpec := { name := "fnExactMatchAt", fn := fun _ => fun
  | [d1, d2] => { results := [.lit (.bool false)], args := [d1, d2] }
  | _ => none }
def FnExactMatchAtWrongFalsely : Prop := fnExactMatchAtRow.holds Try.pinned (OpenSpec.ofChange fnExactMatchAtWrong)

/-- 'laws.FnExactPackStoredOf': WHATEVER THE INPUT: true; the input reads as it did. -/
def fnExactPackStoredOfSpec : ChangeSpec := { name := "fnExactPackStoredOf", fn := fun _ => fun
  | [d] => { results := [.lit (.bool true)], args := [d] }
  | _ => none }
def fnExactPackStoredOfRow : OpenClaim := { program := "ytphdamdgenepmaa", sum := "548f83f99821c57a08db338c160f3ee6fc4131916b4a43261d5be7bd0b3c0877", func := "loop.example/g00137/laws.FnExactPackStoredOf", spec := "fnExactPackStoredOf", apart := false }
def FnExactPackStoredOfSaid : Prop := fnExactPackStoredOfRow.holds Try.pinned (OpenSpec.ofChange fnExactPackStoredOfSpec)

/-- ITS FALSE NEIGHBOUR: 'it returns false'. Refute it at one input. -/
def fnExactPackStoredOfWrong : ChangeSpec := { name := "fnExactPackStoredOf", fn := fun _ => fun
  | [d] => { results := [.lit (.bool false)], args := [d] }
  | _ => none }
def FnExactPackStoredOfWrongFalsely : Prop := fnExactPackStoredOfRow.holds Try.pinned (OpenSpec.ofChange fnExactPackStoredOfWrong)

/- THE SECOND FORM. 'bulk': how many values and letters a reading holds, each counted each time it is reached (what is shared counts as often as it is met; a slice's spare places count too). A statement '..UptoSaid' is the law's where the arguments, and the package variables that the reading takes, are together of bulk at most 1048576: NARROWER than '..Said'. Prove '..Said' where nothing that the law and all that it calls make is longer than what came in: it says more and counts as full. Else prove '..UptoSaid'. A law counts once. -/
mutual
def uptoBulk {H : Type} : DataW H → Nat
  | .lit (.string bytes) => bytes.length + 1
  | .lit _ => 1
  | .nil => 1
  | .ptr d => uptoBulk d + 1
  | .slice elems spare => uptoBulkAll elems + uptoBulkAll spare + 1
  | .agg parts => uptoBulkAll parts + 1
  | .iface _ d => uptoBulk d + 1
  | .map entries => uptoBulkEntries entries + 1
  | .held _ => 1
def uptoBulkAll {H : Type} : List (DataW H) → Nat
  | [] => 0
  | d :: r => uptoBulk d + uptoBulkAll r
def uptoBulkEntries {H : Type} : List (Lit × DataW H) → Nat
  | [] => 0
  | x :: r => uptoBulkEntry x + uptoBulkEntries r
def uptoBulkEntry {H : Type} : Lit × DataW H → Nat
  | (.string bytes, d) => bytes.length + uptoBulk d + 1
  | (_, d) => uptoBulk d + 1
 end
def uptoSmall : (H : Type) → List (DataW H) → Bool := fun _ ds => decide (uptoBulkAll ds ≤ 1048576)
def OpenSpec.upto (s : _root_.Go.ChangeSpec) : _root_.Go.OpenSpec := { _root_.Go.OpenSpec.ofChange s with cond := some uptoSmall }

/-- 'laws.FnExactFixRoot', WHERE WHAT IT READS IS OF BULK AT MOST 1048576: true; the input reads as it did. -/
def fnExactFixRootUptoRow : OpenClaim := { program := "ytphdamdgenepmaa", sum := "548f83f99821c57a08db338c160f3ee6fc4131916b4a43261d5be7bd0b3c0877", func := "loop.example/g00137/laws.FnExactFixRoot", spec := "fnExactFixRoot", apart := false, narrowed := true }
def FnExactFixRootUptoSaid : Prop := fnExactFixRootUptoRow.holds Try.pinned (OpenSpec.upto fnExactFixRootSpec)

/-- 'laws.FnExactFixDiv', WHERE WHAT IT READS IS OF BULK AT MOST 1048576: true; the input reads as it did. -/
def fnExactFixDivUptoRow : OpenClaim := { program := "ytphdamdgenepmaa", sum := "548f83f99821c57a08db338c160f3ee6fc4131916b4a43261d5be7bd0b3c0877", func := "loop.example/g00137/laws.FnExactFixDiv", spec := "fnExactFixDiv", apart := false, narrowed := true }
def FnExactFixDivUptoSaid : Prop := fnExactFixDivUptoRow.holds Try.pinned (OpenSpec.upto fnExactFixDivSpec)

/-- 'laws.FnExactFixMul', WHERE WHAT IT READS IS OF BULK AT MOST 1048576: true; the input reads as it did. -/
def fnExactFixMulUptoRow : OpenClaim := { program := "ytphdamdgenepmaa", sum := "548f83f99821c57a08db338c160f3ee6fc4131916b4a43261d5be7bd0b3c0877", func := "loop.example/g00137/laws.FnExactFixMul", spec := "fnExactFixMul", inPlace := ["math/bits.Add64"], apart := false, narrowed := true }
def FnExactFixMulUptoSaid : Prop := fnExactFixMulUptoRow.holds Try.pinned (OpenSpec.upto fnExactFixMulSpec)

/-- 'laws.FnExactMulAffine', WHERE WHAT IT READS IS OF BULK AT MOST 1048576: true; the input reads as it did. -/
def fnExactMulAffineUptoRow : OpenClaim := { program := "ytphdamdgenepmaa", sum := "548f83f99821c57a08db338c160f3ee6fc4131916b4a43261d5be7bd0b3c0877", func := "loop.example/g00137/laws.FnExactMulAffine", spec := "fnExactMulAffine", inPlace := ["math/bits.Add64"], apart := false, narrowed := true }
def FnExactMulAffineUptoSaid : Prop := fnExactMulAffineUptoRow.holds Try.pinned (OpenSpec.upto fnExactMulAffineSpec)

/-- 'laws.FnExactReadFixed', WHERE WHAT IT READS IS OF BULK AT MOST 1048576: true; the input reads as it did. -/
def fnExactReadFixedUptoRow : OpenClaim := { program := "ytphdamdgenepmaa", sum := "548f83f99821c57a08db338c160f3ee6fc4131916b4a43261d5be7bd0b3c0877", func := "loop.example/g00137/laws.FnExactReadFixed", spec := "fnExactReadFixed", apart := false, narrowed := true }
def FnExactReadFixedUptoSaid : Prop := fnExactReadFixedUptoRow.holds Try.pinned (OpenSpec.upto fnExactReadFixedSpec)

/-- 'laws.FnExactAdler32', WHERE WHAT IT READS IS OF BULK AT MOST 1048576: true; the input reads as it did. -/
def fnExactAdler32UptoRow : OpenClaim := { program := "ytphdamdgenepmaa", sum := "548f83f99821c57a08db338c160f3ee6fc4131916b4a43261d5be7bd0b3c0877", func := "loop.example/g00137/laws.FnExactAdler32", spec := "fnExactAdler32", apart := false, narrowed := true }
def FnExactAdler32UptoSaid : Prop := fnExactAdler32UptoRow.holds Try.pinned (OpenSpec.upto fnExactAdler32Spec)

/-- 'laws.FnExactCrc32', WHERE WHAT IT READS IS OF BULK AT MOST 1048576: true; the input reads as it did. -/
def fnExactCrc32UptoRow : OpenClaim := { program := "ytphdamdgenepmaa", sum := "548f83f99821c57a08db338c160f3ee6fc4131916b4a43261d5be7bd0b3c0877", func := "loop.example/g00137/laws.FnExactCrc32", spec := "fnExactCrc32", apart := false, narrowed := true }
def FnExactCrc32UptoSaid : Prop := fnExactCrc32UptoRow.holds Try.pinned (OpenSpec.upto fnExactCrc32Spec)

/-- 'laws.FnExactProperties', WHERE WHAT IT READS IS OF BULK AT MOST 1048576: true; the input reads as it did. -/
def fnExactPropertiesUptoRow : OpenClaim := { program := "ytphdamdgenepmaa", sum := "548f83f99821c57a08db338c160f3ee6fc4131916b4a43261d5be7bd0b3c0877", func := "loop.example/g00137/laws.FnExactProperties", spec := "fnExactProperties", apart := false, narrowed := true }
def FnExactPropertiesUptoSaid : Prop := fnExactPropertiesUptoRow.holds Try.pinned (OpenSpec.upto fnExactPropertiesSpec)

/-- 'laws.FnExactCodesOf', WHERE WHAT IT READS IS OF BULK AT MOST 1048576: true; the input reads as it did. -/
def fnExactCodesOfUptoRow : OpenClaim := { program := "ytphdamdgenepmaa", sum := "548f83f99821c57a08db338c160f3ee6fc4131916b4a43261d5be7bd0b3c0877", func := "loop.example/g00137/laws.FnExactCodesOf", spec := "fnExactCodesOf", apart := false, narrowed := true }
def FnExactCodesOfUptoSaid : Prop := fnExactCodesOfUptoRow.holds Try.pinned (OpenSpec.upto fnExactCodesOfSpec)

/-- 'laws.FnExactMatchAt', WHERE WHAT IT READS IS OF BULK AT MOST 1048576: true; the input reads as it did. -/
def fnExactMatchAtUptoRow : OpenClaim := { program := "ytphdamdgenepmaa", sum := "548f83f99821c57a08db338c160f3ee6fc4131916b4a43261d5be7bd0b3c0877", func := "loop.example/g00137/laws.FnExactMatchAt", spec := "fnExactMatchAt", apart := false, narrowed := true }
def FnExactMatchAtUptoSaid : Prop := fnExactMatchAtUptoRow.holds Try.pinned (OpenSpec.upto fnExactMatchAtSpec)

/-- 'laws.FnExactPackStoredOf', WHERE WHAT IT READS IS OF BULK AT MOST 1048576: true; the input reads as it did. -/
def fnExactPackStoredOfUptoRow : OpenClaim := { program := "ytphdamdgenepmaa", sum := "548f83f99821c57a08db338c160f3ee6fc4131916b4a43261d5be7bd0b3c0877", func := "loop.example/g00137/laws.FnExactPackStoredOf", spec := "fnExactPackStoredOf", apart := false, narrowed := true }
def FnExactPackStoredOfUptoSaid : Prop := fnExactPackStoredOfUptoRow.holds Try.pinned (OpenSpec.upto fnExactPackStoredOfSpec)

end Rows
end Go.Proofs.Ytphdamdgenepmaa
