/-
  No cell of these rows narrows 'for every input' (looked for: loops, veiled, ifaces, maps, wideKeys, modest, calm, conditions, laid).
  DERIVED. THE GIVEN ROWS OF THIS SEAT. 4 by the template 'for every input the law returns true; each argument reads behind the call as it read before'; 0 by the template 'total and deterministic' (their statements: YtfogfjmkngoegaaTotals.lean).
  GIVEN WITH THE SEED: the statements are not yours to turn. If you find one false, say at which input.
  Laid BY PROGRAM, IN A SANDBOX (cutbox-rows.mjs): the forced cells as the released guide's own fill.sh prints them over the translation f88ee389e34ea9cf… (all of the seat's roots in one cut). By AI agents, Wed Nov 11 2026. No macro, syntax, notation, axiom, sorry.
-/
import Derived.Test.YtfogfjmkngoegaaChecked
import GoSem.Claim
import GoSem.ClaimJoined
import GoSem.ClaimMapViews
import Derived.JoinedTies
import Derived.KernelRfl
namespace Go.Proofs.Ytfogfjmkngoegaa
/- THE CELL 'sum', in the pinned program and in every row, IS THE sha256 OF THE DUMP (.gsa) THAT YtfogfjmkngoegaaProg.lean LOADS. Nothing in Lean hashes anything: it is a label: what it is worth is what the hold of that sum in a sandbox is worth. -/
noncomputable def Try.pinned : Pinned := { name := "ytfogfjmkngoegaa", sum := "f88ee389e34ea9cfbe6ae20baf1d45c3a73e862773e2ce8b5f2e27f2e6726233", checked := Try.checked }
namespace Rows
def none {H : Type} : Left H := { results := [], args := [] }

/-- 'laws.FnExactPackFixedOf': WHATEVER THE INPUT: true; the input reads as it did. -/
def fnExactPackFixedOfSpec : ChangeSpec := { name := "fnExactPackFixedOf", fn := fun _ => fun
  | [d] => { results := [.lit (.bool true)], args := [d] }
  | _ => none }
def fnExactPackFixedOfRow : OpenClaim := { program := "ytfogfjmkngoegaa", sum := "f88ee389e34ea9cfbe6ae20baf1d45c3a73e862773e2ce8b5f2e27f2e6726233", func := "loop.example/g00137/laws.FnExactPackFixedOf", spec := "fnExactPackFixedOf", unfollowed := true, recurses := true, plainKeys := false, apart := false }
def FnExactPackFixedOfSaid : Prop := fnExactPackFixedOfRow.holds Try.pinned (OpenSpec.ofChange fnExactPackFixedOfSpec)

/-- ITS FALSE NEIGHBOUR: 'it returns false'. Refute it at one input. -/
def fnExactPackFixedOfWrong : ChangeSpec := { name := "fnExactPackFixedOf", fn := fun _ => fun
  | [d] => { results := [.lit (.bool false)], args := [d] }
  | _ => none }
def FnExactPackFixedOfWrongFalsely : Prop := fnExactPackFixedOfRow.holds Try.pinned (OpenSpec.ofChange fnExactPackFixedOfWrong)

/-- 'laws.FnExactPackBest': WHATEVER THE INPUT: true; the input reads as it did. -/
def fnExactPackBestSpec : ChangeSpec := { name := "fnExactPackBest", fn := fun _ => fun
  | [d] => { results := [.lit (.bool true)], args := [d] }
  | _ => none }
def fnExactPackBestRow : OpenClaim := { program := "ytfogfjmkngoegaa", sum := "f88ee389e34ea9cfbe6ae20baf1d45c3a73e862773e2ce8b5f2e27f2e6726233", func := "loop.example/g00137/laws.FnExactPackBest", spec := "fnExactPackBest", unfollowed := true, recurses := true, plainKeys := false, apart := false }
def FnExactPackBestSaid : Prop := fnExactPackBestRow.holds Try.pinned (OpenSpec.ofChange fnExactPackBestSpec)

/-- ITS FALSE NEIGHBOUR: 'it returns false'. Refute it at one input. -/
def fnExactPackBestWrong : ChangeSpec := { name := "fnExactPackBest", fn := fun _ => fun
  | [d] => { results := [.lit (.bool false)], args := [d] }
  | _ => none }
def FnExactPackBestWrongFalsely : Prop := fnExactPackBestRow.holds Try.pinned (OpenSpec.ofChange fnExactPackBestWrong)

/-- 'laws.FnExactEncodePng': WHATEVER THE INPUT: true; the input reads as it did. -/
def fnExactEncodePngSpec : ChangeSpec := { name := "fnExactEncodePng", fn := fun _ => fun
  | [d1, d2, d3] => { results := [.lit (.bool true)], args := [d1, d2, d3] }
  | _ => none }
def fnExactEncodePngRow : OpenClaim := { program := "ytfogfjmkngoegaa", sum := "f88ee389e34ea9cfbe6ae20baf1d45c3a73e862773e2ce8b5f2e27f2e6726233", func := "loop.example/g00137/laws.FnExactEncodePng", spec := "fnExactEncodePng", unfollowed := true, recurses := true, plainKeys := false, apart := false }
def FnExactEncodePngSaid : Prop := fnExactEncodePngRow.holds Try.pinned (OpenSpec.ofChange fnExactEncodePngSpec)

/-- ITS FALSE NEIGHBOUR: 'it returns false'. Refute it at one input. -/
def fnExactEncodePngWrong : ChangeSpec := { name := "fnExactEncodePng", fn := fun _ => fun
  | [d1, d2, d3] => { results := [.lit (.bool false)], args := [d1, d2, d3] }
  | _ => none }
def FnExactEncodePngWrongFalsely : Prop := fnExactEncodePngRow.holds Try.pinned (OpenSpec.ofChange fnExactEncodePngWrong)

/-- 'laws.FnExactDecodePng': WHATEVER THE INPUT: true; the input reads as it did. -/
def fnExactDecodePngSpec : ChangeSpec := { name := "fnExactDecodePng", fn := fun _ => fun
  | [d] => { results := [.lit (.bool true)], args := [d] }
  | _ => none }
def fnExactDecodePngRow : OpenClaim := { program := "ytfogfjmkngoegaa", sum := "f88ee389e34ea9cfbe6ae20baf1d45c3a73e862773e2ce8b5f2e27f2e6726233", func := "loop.example/g00137/laws.FnExactDecodePng", spec := "fnExactDecodePng", plainKeys := false, apart := false }
def FnExactDecodePngSaid : Prop := fnExactDecodePngRow.holds Try.pinned (OpenSpec.ofChange fnExactDecodePngSpec)

/-- ITS FALSE NEIGHBOUR: 'it returns false'. Refute it at one input. -/
def fnExactDecodePngWrong : ChangeSpec := { name := "fnExactDecodePng", fn := fun _ => fun
  | [d] => { results := [.lit (.bool false)], args := [d] }
  | _ => none }
def FnExactDecodePngWrongFalsely : Prop := fnExactDecodePngRow.holds Try.pinned (OpenSpec.ofChange fnExactDecodePngWrong)

/- THE SECOND FORM. 'bulk': how many values and letters a reading holds, each counted each time it is reached (what is shared counts as often as it is met; a slice's spare places count too). A statement '..UptoSaid' is the law's where the arguments, and the package variables that the reading takes, are together of bulk at most 1048576: NARROWER than '..Said'. Prove '..Said' where nothing that the law and all that it calls make is longer than what came in: it says more and counts as full. Else prove '..UptoSaid'. A law counts once. -/
mutual
def uptoBulk {H : Type} : DataW H → Nat
  | .lit (.string bytes) => bytes.length + 1
  | .lit _ => 1
  | .nil => 1
  | .ptr d => uptoBulk d + 1
  | .slice elems spare => uptoBulkAll elems + uptoBulkAll spare + 1
  | .agg parts => uptoBulkAll parts + 1
  | .iface _ d => uptoBulk d + 1
  | .map entries => uptoBulkEntries entries + 1
  | .held _ => 1
def uptoBulkAll {H : Type} : List (DataW H) → Nat
  | [] => 0
  | d :: r => uptoBulk d + uptoBulkAll r
def uptoBulkEntries {H : Type} : List (Lit × DataW H) → Nat
  | [] => 0
  | x :: r => uptoBulkEntry x + uptoBulkEntries r
def uptoBulkEntry {H : Type} : Lit × DataW H → Nat
  | (.string bytes, d) => bytes.length + uptoBulk d + 1
  | (_, d) => uptoBulk d + 1
 end
def uptoSmall : (H : Type) → List (DataW H) → Bool := fun _ ds => decide (uptoBulkAll ds ≤ 1048576)
def OpenSpec.upto (s : _root_.Go.ChangeSpec) : _root_.Go.OpenSpec := { _root_.Go.OpenSpec.ofChange s with cond := some uptoSmall }

/-- 'laws.FnExactPackFixedOf', WHERE WHAT IT READS IS OF BULK AT MOST 1048576: true; the input reads as it did. -/
def fnExactPackFixedOfUptoRow : OpenClaim := { program := "ytfogfjmkngoegaa", sum := "f88ee389e34ea9cfbe6ae20baf1d45c3a73e862773e2ce8b5f2e27f2e6726233", func := "loop.example/g00137/laws.FnExactPackFixedOf", spec := "fnExactPackFixedOf", unfollowed := true, recurses := true, plainKeys := false, apart := false, narrowed := true }
def FnExactPackFixedOfUptoSaid : Prop := fnExactPackFixedOfUptoRow.holds Try.pinned (OpenSpec.upto fnExactPackFixedOfSpec)

/-- 'laws.FnExactPackBest', WHERE WHAT IT READS IS OF BULK AT MOST 1048576: true; the input reads as it did. -/
def fnExactPackBestUptoRow : OpenClaim := { program := "ytfogfjmkngoegaa", sum := "f88ee389e34ea9cfbe6ae20baf1d45c3a73e862773e2ce8b5f2e27f2e6726233", func := "loop.example/g00137/laws.FnExactPackBest", spec := "fnExactPackBest", unfollowed := true, recurses := true, plainKeys := false, apart := false, narrowed := true }
def FnExactPackBestUptoSaid : Prop := fnExactPackBestUptoRow.holds Try.pinned (OpenSpec.upto fnExactPackBestSpec)

/-- 'laws.FnExactEncodePng', WHERE WHAT IT READS IS OF BULK AT MOST 1048576: true; the input reads as it did. -/
def fnExactEncodePngUptoRow : OpenClaim := { program := "ytfogfjmkngoegaa", sum := "f88ee389e34ea9cfbe6ae20baf1d45c3a73e862773e2ce8b5f2e27f2e6726233", func := "loop.example/g00137/laws.FnExactEncodePng", spec := "fnExactEncodePng", unfollowed := true, recurses := true, plainKeys := false, apart := false, narrowed := true }
def FnExactEncodePngUptoSaid : Prop := fnExactEncodePngUptoRow.holds Try.pinned (OpenSpec.upto fnExactEncodePngSpec)

/-- 'laws.FnExactDecodePng', WHERE WHAT IT READS IS OF BULK AT MOST 1048576: true; the input reads as it did. -/
def fnExactDecodePngUptoRow : OpenClaim := { program := "ytfogfjmkngoegaa", sum := "f88ee389e34ea9cfbe6ae20baf1d45c3a73e862773e2ce8b5f2e27f2e6726233", func := "loop.example/g00137/laws.FnExactDecodePng", spec := "fnExactDecodePng", plainKeys := false, apart := false, narrowed := true }
def FnExactDecodePngUptoSaid : Prop := fnExactDecodePngUptoRow.holds Try.pinned (OpenSpec.upto fnExactDecodePngSpec)

end Rows
end Go.Proofs.Ytfogfjmkngoegaa
