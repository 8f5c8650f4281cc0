/-
  No cell of these rows narrows 'for every input' (looked for: loops, veiled, ifaces, maps, wideKeys, modest, calm, conditions, laid).
  DERIVED. THE GIVEN ROWS OF THIS SEAT. 8 by the template 'for every input the law returns true; each argument reads behind the call as it read before'; 0 by the template 'total and deterministic' (their statements: YthebkooanhkpfaaTotals.lean).
  GIVEN WITH THE SEED: the statements are not yours to turn. If you find one false, say at which input.
  Laid BY PROGRAM, IN A SANDBOX (cutbox-rows.mjs): the forced cells as the released guide's own fill.sh prints them over the translation 90ddb02f8985324f… (all of the seat's roots in one cut). By AI agents, Wed Nov 11 2026. No macro, syntax, notation, axiom, sorry.
-/
import Derived.Test.YthebkooanhkpfaaChecked
import GoSem.Claim
import GoSem.ClaimJoined
import GoSem.ClaimMapViews
import Derived.JoinedTies
import Derived.KernelRfl
namespace Go.Proofs.Ythebkooanhkpfaa
/- THE CELL 'sum', in the pinned program and in every row, IS THE sha256 OF THE DUMP (.gsa) THAT YthebkooanhkpfaaProg.lean LOADS. Nothing in Lean hashes anything: it is a label: what it is worth is what the hold of that sum in a sandbox is worth. -/
noncomputable def Try.pinned : Pinned := { name := "ythebkooanhkpfaa", sum := "90ddb02f8985324f7fb3891f02cf30e3688f1a3d06a08de429b1c745b59f6c75", checked := Try.checked }
namespace Rows
def none {H : Type} : Left H := { results := [], args := [] }

/-- 'laws.FnExactConstants': WHATEVER THE INPUT: true; the input reads as it did. -/
def fnExactConstantsSpec : ChangeSpec := { name := "fnExactConstants", fn := fun _ => fun
  | [] => { results := [.lit (.bool true)], args := [] }
  | _ => none }
def fnExactConstantsRow : OpenClaim := { program := "ythebkooanhkpfaa", sum := "90ddb02f8985324f7fb3891f02cf30e3688f1a3d06a08de429b1c745b59f6c75", func := "loop.example/g00137/laws.FnExactConstants", spec := "fnExactConstants", apart := false }
def FnExactConstantsSaid : Prop := fnExactConstantsRow.holds Try.pinned (OpenSpec.ofChange fnExactConstantsSpec)

/-- ITS FALSE NEIGHBOUR: 'it returns false'. Refute it at one input. -/
def fnExactConstantsWrong : ChangeSpec := { name := "fnExactConstants", fn := fun _ => fun
  | [] => { results := [.lit (.bool false)], args := [] }
  | _ => none }
def FnExactConstantsWrongFalsely : Prop := fnExactConstantsRow.holds Try.pinned (OpenSpec.ofChange fnExactConstantsWrong)

/-- 'laws.FnExactGoodFixed': WHATEVER THE INPUT: true; the input reads as it did. -/
def fnExactGoodFixedSpec : ChangeSpec := { name := "fnExactGoodFixed", fn := fun _ => fun
  | [d] => { results := [.lit (.bool true)], args := [d] }
  | _ => none }
def fnExactGoodFixedRow : OpenClaim := { program := "ythebkooanhkpfaa", sum := "90ddb02f8985324f7fb3891f02cf30e3688f1a3d06a08de429b1c745b59f6c75", func := "loop.example/g00137/laws.FnExactGoodFixed", spec := "fnExactGoodFixed", apart := false }
def FnExactGoodFixedSaid : Prop := fnExactGoodFixedRow.holds Try.pinned (OpenSpec.ofChange fnExactGoodFixedSpec)

/-- ITS FALSE NEIGHBOUR: 'it returns false'. Refute it at one input. -/
def fnExactGoodFixedWrong : ChangeSpec := { name := "fnExactGoodFixed", fn := fun _ => fun
  | [d] => { results := [.lit (.bool false)], args := [d] }
  | _ => none }
def FnExactGoodFixedWrongFalsely : Prop := fnExactGoodFixedRow.holds Try.pinned (OpenSpec.ofChange fnExactGoodFixedWrong)

/-- 'laws.FnExactGoodAffine': WHATEVER THE INPUT: true; the input reads as it did. -/
def fnExactGoodAffineSpec : ChangeSpec := { name := "fnExactGoodAffine", fn := fun _ => fun
  | [d] => { results := [.lit (.bool true)], args := [d] }
  | _ => none }
def fnExactGoodAffineRow : OpenClaim := { program := "ythebkooanhkpfaa", sum := "90ddb02f8985324f7fb3891f02cf30e3688f1a3d06a08de429b1c745b59f6c75", func := "loop.example/g00137/laws.FnExactGoodAffine", spec := "fnExactGoodAffine", apart := false }
def FnExactGoodAffineSaid : Prop := fnExactGoodAffineRow.holds Try.pinned (OpenSpec.ofChange fnExactGoodAffineSpec)

/-- ITS FALSE NEIGHBOUR: 'it returns false'. Refute it at one input. -/
def fnExactGoodAffineWrong : ChangeSpec := { name := "fnExactGoodAffine", fn := fun _ => fun
  | [d] => { results := [.lit (.bool false)], args := [d] }
  | _ => none }
def FnExactGoodAffineWrongFalsely : Prop := fnExactGoodAffineRow.holds Try.pinned (OpenSpec.ofChange fnExactGoodAffineWrong)

/-- 'laws.FnExactInherits': WHATEVER THE INPUT: true; the input reads as it did. -/
def fnExactInheritsSpec : ChangeSpec := { name := "fnExactInherits", fn := fun _ => fun
  | [d] => { results := [.lit (.bool true)], args := [d] }
  | _ => none }
def fnExactInheritsRow : OpenClaim := { program := "ythebkooanhkpfaa", sum := "90ddb02f8985324f7fb3891f02cf30e3688f1a3d06a08de429b1c745b59f6c75", func := "loop.example/g00137/laws.FnExactInherits", spec := "fnExactInherits", apart := false }
def FnExactInheritsSaid : Prop := fnExactInheritsRow.holds Try.pinned (OpenSpec.ofChange fnExactInheritsSpec)

/-- ITS FALSE NEIGHBOUR: 'it returns false'. Refute it at one input. -/
def fnExactInheritsWrong : ChangeSpec := { name := "fnExactInherits", fn := fun _ => fun
  | [d] => { results := [.lit (.bool false)], args := [d] }
  | _ => none }
def FnExactInheritsWrongFalsely : Prop := fnExactInheritsRow.holds Try.pinned (OpenSpec.ofChange fnExactInheritsWrong)

/-- 'laws.FnExactFirstValue': WHATEVER THE INPUT: true; the input reads as it did. -/
def fnExactFirstValueSpec : ChangeSpec := { name := "fnExactFirstValue", fn := fun _ => fun
  | [d] => { results := [.lit (.bool true)], args := [d] }
  | _ => none }
def fnExactFirstValueRow : OpenClaim := { program := "ythebkooanhkpfaa", sum := "90ddb02f8985324f7fb3891f02cf30e3688f1a3d06a08de429b1c745b59f6c75", func := "loop.example/g00137/laws.FnExactFirstValue", spec := "fnExactFirstValue", apart := false }
def FnExactFirstValueSaid : Prop := fnExactFirstValueRow.holds Try.pinned (OpenSpec.ofChange fnExactFirstValueSpec)

/-- ITS FALSE NEIGHBOUR: 'it returns false'. Refute it at one input. -/
def fnExactFirstValueWrong : ChangeSpec := { name := "fnExactFirstValue", fn := fun _ => fun
  | [d] => { results := [.lit (.bool false)], args := [d] }
  | _ => none }
def FnExactFirstValueWrongFalsely : Prop := fnExactFirstValueRow.holds Try.pinned (OpenSpec.ofChange fnExactFirstValueWrong)

/-- 'laws.FnExactTurnOf': WHATEVER THE INPUT: true; the input reads as it did. -/
def fnExactTurnOfSpec : ChangeSpec := { name := "fnExactTurnOf", fn := fun _ => fun
  | [d] => { results := [.lit (.bool true)], args := [d] }
  | _ => none }
def fnExactTurnOfRow : OpenClaim := { program := "ythebkooanhkpfaa", sum := "90ddb02f8985324f7fb3891f02cf30e3688f1a3d06a08de429b1c745b59f6c75", func := "loop.example/g00137/laws.FnExactTurnOf", spec := "fnExactTurnOf", apart := false }
def FnExactTurnOfSaid : Prop := fnExactTurnOfRow.holds Try.pinned (OpenSpec.ofChange fnExactTurnOfSpec)

/-- ITS FALSE NEIGHBOUR: 'it returns false'. Refute it at one input. -/
def fnExactTurnOfWrong : ChangeSpec := { name := "fnExactTurnOf", fn := fun _ => fun
  | [d] => { results := [.lit (.bool false)], args := [d] }
  | _ => none }
def FnExactTurnOfWrongFalsely : Prop := fnExactTurnOfRow.holds Try.pinned (OpenSpec.ofChange fnExactTurnOfWrong)

/-- 'laws.FnExactSinOf': WHATEVER THE INPUT: true; the input reads as it did. -/
def fnExactSinOfSpec : ChangeSpec := { name := "fnExactSinOf", fn := fun _ => fun
  | [d] => { results := [.lit (.bool true)], args := [d] }
  | _ => none }
def fnExactSinOfRow : OpenClaim := { program := "ythebkooanhkpfaa", sum := "90ddb02f8985324f7fb3891f02cf30e3688f1a3d06a08de429b1c745b59f6c75", func := "loop.example/g00137/laws.FnExactSinOf", spec := "fnExactSinOf", recurses := true, apart := false }
def FnExactSinOfSaid : Prop := fnExactSinOfRow.holds Try.pinned (OpenSpec.ofChange fnExactSinOfSpec)

/-- ITS FALSE NEIGHBOUR: 'it returns false'. Refute it at one input. -/
def fnExactSinOfWrong : ChangeSpec := { name := "fnExactSinOf", fn := fun _ => fun
  | [d] => { results := [.lit (.bool false)], args := [d] }
  | _ => none }
def FnExactSinOfWrongFalsely : Prop := fnExactSinOfRow.holds Try.pinned (OpenSpec.ofChange fnExactSinOfWrong)

/-- 'laws.FnExactCosOf': WHATEVER THE INPUT: true; the input reads as it did. -/
def fnExactCosOfSpec : ChangeSpec := { name := "fnExactCosOf", fn := fun _ => fun
  | [d] => { results := [.lit (.bool true)], args := [d] }
  | _ => none }
def fnExactCosOfRow : OpenClaim := { program := "ythebkooanhkpfaa", sum := "90ddb02f8985324f7fb3891f02cf30e3688f1a3d06a08de429b1c745b59f6c75", func := "loop.example/g00137/laws.FnExactCosOf", spec := "fnExactCosOf", recurses := true, apart := false }
def FnExactCosOfSaid : Prop := fnExactCosOfRow.holds Try.pinned (OpenSpec.ofChange fnExactCosOfSpec)

/-- ITS FALSE NEIGHBOUR: 'it returns false'. Refute it at one input. -/
def fnExactCosOfWrong : ChangeSpec := { name := "fnExactCosOf", fn := fun _ => fun
  | [d] => { results := [.lit (.bool false)], args := [d] }
  | _ => none }
def FnExactCosOfWrongFalsely : Prop := fnExactCosOfRow.holds Try.pinned (OpenSpec.ofChange fnExactCosOfWrong)

/- THE SECOND FORM. 'bulk': how many values and letters a reading holds, each counted each time it is reached (what is shared counts as often as it is met; a slice's spare places count too). A statement '..UptoSaid' is the law's where the arguments, and the package variables that the reading takes, are together of bulk at most 1048576: NARROWER than '..Said'. Prove '..Said' where nothing that the law and all that it calls make is longer than what came in: it says more and counts as full. Else prove '..UptoSaid'. A law counts once. -/
mutual
def uptoBulk {H : Type} : DataW H → Nat
  | .lit (.string bytes) => bytes.length + 1
  | .lit _ => 1
  | .nil => 1
  | .ptr d => uptoBulk d + 1
  | .slice elems spare => uptoBulkAll elems + uptoBulkAll spare + 1
  | .agg parts => uptoBulkAll parts + 1
  | .iface _ d => uptoBulk d + 1
  | .map entries => uptoBulkEntries entries + 1
  | .held _ => 1
def uptoBulkAll {H : Type} : List (DataW H) → Nat
  | [] => 0
  | d :: r => uptoBulk d + uptoBulkAll r
def uptoBulkEntries {H : Type} : List (Lit × DataW H) → Nat
  | [] => 0
  | x :: r => uptoBulkEntry x + uptoBulkEntries r
def uptoBulkEntry {H : Type} : Lit × DataW H → Nat
  | (.string bytes, d) => bytes.length + uptoBulk d + 1
  | (_, d) => uptoBulk d + 1
 end
def uptoSmall : (H : Type) → List (DataW H) → Bool := fun _ ds => decide (uptoBulkAll ds ≤ 1048576)
def OpenSpec.upto (s : _root_.Go.ChangeSpec) : _root_.Go.OpenSpec := { _root_.Go.OpenSpec.ofChange s with cond := some uptoSmall }

/-- 'laws.FnExactConstants', WHERE WHAT IT READS IS OF BULK AT MOST 1048576: true; the input reads as it did. -/
def fnExactConstantsUptoRow : OpenClaim := { program := "ythebkooanhkpfaa", sum := "90ddb02f8985324f7fb3891f02cf30e3688f1a3d06a08de429b1c745b59f6c75", func := "loop.example/g00137/laws.FnExactConstants", spec := "fnExactConstants", apart := false, narrowed := true }
def FnExactConstantsUptoSaid : Prop := fnExactConstantsUptoRow.holds Try.pinned (OpenSpec.upto fnExactConstantsSpec)

/-- 'laws.FnExactGoodFixed', WHERE WHAT IT READS IS OF BULK AT MOST 1048576: true; the input reads as it did. -/
def fnExactGoodFixedUptoRow : OpenClaim := { program := "ythebkooanhkpfaa", sum := "90ddb02f8985324f7fb3891f02cf30e3688f1a3d06a08de429b1c745b59f6c75", func := "loop.example/g00137/laws.FnExactGoodFixed", spec := "fnExactGoodFixed", apart := false, narrowed := true }
def FnExactGoodFixedUptoSaid : Prop := fnExactGoodFixedUptoRow.holds Try.pinned (OpenSpec.upto fnExactGoodFixedSpec)

/-- 'laws.FnExactGoodAffine', WHERE WHAT IT READS IS OF BULK AT MOST 1048576: true; the input reads as it did. -/
def fnExactGoodAffineUptoRow : OpenClaim := { program := "ythebkooanhkpfaa", sum := "90ddb02f8985324f7fb3891f02cf30e3688f1a3d06a08de429b1c745b59f6c75", func := "loop.example/g00137/laws.FnExactGoodAffine", spec := "fnExactGoodAffine", apart := false, narrowed := true }
def FnExactGoodAffineUptoSaid : Prop := fnExactGoodAffineUptoRow.holds Try.pinned (OpenSpec.upto fnExactGoodAffineSpec)

/-- 'laws.FnExactInherits', WHERE WHAT IT READS IS OF BULK AT MOST 1048576: true; the input reads as it did. -/
def fnExactInheritsUptoRow : OpenClaim := { program := "ythebkooanhkpfaa", sum := "90ddb02f8985324f7fb3891f02cf30e3688f1a3d06a08de429b1c745b59f6c75", func := "loop.example/g00137/laws.FnExactInherits", spec := "fnExactInherits", apart := false, narrowed := true }
def FnExactInheritsUptoSaid : Prop := fnExactInheritsUptoRow.holds Try.pinned (OpenSpec.upto fnExactInheritsSpec)

/-- 'laws.FnExactFirstValue', WHERE WHAT IT READS IS OF BULK AT MOST 1048576: true; the input reads as it did. -/
def fnExactFirstValueUptoRow : OpenClaim := { program := "ythebkooanhkpfaa", sum := "90ddb02f8985324f7fb3891f02cf30e3688f1a3d06a08de429b1c745b59f6c75", func := "loop.example/g00137/laws.FnExactFirstValue", spec := "fnExactFirstValue", apart := false, narrowed := true }
def FnExactFirstValueUptoSaid : Prop := fnExactFirstValueUptoRow.holds Try.pinned (OpenSpec.upto fnExactFirstValueSpec)

/-- 'laws.FnExactTurnOf', WHERE WHAT IT READS IS OF BULK AT MOST 1048576: true; the input reads as it did. -/
def fnExactTurnOfUptoRow : OpenClaim := { program := "ythebkooanhkpfaa", sum := "90ddb02f8985324f7fb3891f02cf30e3688f1a3d06a08de429b1c745b59f6c75", func := "loop.example/g00137/laws.FnExactTurnOf", spec := "fnExactTurnOf", apart := false, narrowed := true }
def FnExactTurnOfUptoSaid : Prop := fnExactTurnOfUptoRow.holds Try.pinned (OpenSpec.upto fnExactTurnOfSpec)

/-- 'laws.FnExactSinOf', WHERE WHAT IT READS IS OF BULK AT MOST 1048576: true; the input reads as it did. -/
def fnExactSinOfUptoRow : OpenClaim := { program := "ythebkooanhkpfaa", sum := "90ddb02f8985324f7fb3891f02cf30e3688f1a3d06a08de429b1c745b59f6c75", func := "loop.example/g00137/laws.FnExactSinOf", spec := "fnExactSinOf", recurses := true, apart := false, narrowed := true }
def FnExactSinOfUptoSaid : Prop := fnExactSinOfUptoRow.holds Try.pinned (OpenSpec.upto fnExactSinOfSpec)

/-- 'laws.FnExactCosOf', WHERE WHAT IT READS IS OF BULK AT MOST 1048576: true; the input reads as it did. -/
def fnExactCosOfUptoRow : OpenClaim := { program := "ythebkooanhkpfaa", sum := "90ddb02f8985324f7fb3891f02cf30e3688f1a3d06a08de429b1c745b59f6c75", func := "loop.example/g00137/laws.FnExactCosOf", spec := "fnExactCosOf", recurses := true, apart := false, narrowed := true }
def FnExactCosOfUptoSaid : Prop := fnExactCosOfUptoRow.holds Try.pinned (OpenSpec.upto fnExactCosOfSpec)

end Rows
end Go.Proofs.Ythebkooanhkpfaa
