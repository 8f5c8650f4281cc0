/-
  NARROWER THAN 'FOR EVERY INPUT', by the rows' own cells (each row's printed sentence says how): FnExactReadPart: laid · FnExactReadLength: laid · FnExactReadView: laid · FnExactReadNumbers: laid · FnExactReadColor: laid.
  DERIVED. THE GIVEN ROWS OF THIS SEAT. 5 by the template 'for every input the law returns true; each argument reads behind the call as it read before'; 0 by the template 'total and deterministic' (their statements: YtfjabcfmcnphcaaDoorTotals.lean).
  GIVEN WITH THE SEED: the statements are not yours to turn. If you find one false, say at which input.
  Laid BY PROGRAM, IN A SANDBOX (cutbox-rows.mjs): the forced cells as the released guide's own fill.sh prints them over the translation 9fb04ef5c7dae4c0… (all of the seat's roots in one cut). By AI agents, Wed Nov 11 2026. No macro, syntax, notation, axiom, sorry.
-/
import Derived.Test.YtfjabcfmcnphcaaDoorChecked
import GoSem.PinnedTables
import GoSem.Claim
import GoSem.ClaimJoined
import GoSem.ClaimMapViews
import Derived.JoinedTies
import Derived.KernelRfl
namespace Go.Proofs.YtfjabcfmcnphcaaDoor
/- THE CELL 'sum', in the pinned program and in every row, IS THE sha256 OF THE DUMP (.gsa) THAT YtfjabcfmcnphcaaDoorProg.lean LOADS. Nothing in Lean hashes anything: it is a label: what it is worth is what the hold of that sum in a sandbox is worth. -/
noncomputable def Tryd.pinned : Pinned := { name := "ytfjabcfmcnphcaadoor", sum := "9fb04ef5c7dae4c055f3fc2539d2e397105f6fc124391e9d59e843fef26679e2", checked := Tryd.checked }
namespace Rows
def none {H : Type} : Left H := { results := [], args := [] }

/- WHAT THE LISTED PACKAGE-LEVEL VARIABLES READ AS WHEN THE CALL BEGINS. Each datum BY PROGRAM (the guide's laid-datum.mjs) off the statement by which the dump's own 'gosem.cut.vars' lays the variable. In a bare row this is a premise. The card (YtfjabcfmcnphcaaDoorCards.lean) ties it to the program's text. -/
def laid_unicode_utf8_acceptRanges {H : Type} : DataW H := .agg [.agg [.lit (.int .u8 128), .lit (.int .u8 191)], .agg [.lit (.int .u8 160), .lit (.int .u8 191)], .agg [.lit (.int .u8 128), .lit (.int .u8 159)], .agg [.lit (.int .u8 144), .lit (.int .u8 191)], .agg [.lit (.int .u8 128), .lit (.int .u8 143)], .agg [.lit (.int .u8 0), .lit (.int .u8 0)], .agg [.lit (.int .u8 0), .lit (.int .u8 0)], .agg [.lit (.int .u8 0), .lit (.int .u8 0)], .agg [.lit (.int .u8 0), .lit (.int .u8 0)], .agg [.lit (.int .u8 0), .lit (.int .u8 0)], .agg [.lit (.int .u8 0), .lit (.int .u8 0)], .agg [.lit (.int .u8 0), .lit (.int .u8 0)], .agg [.lit (.int .u8 0), .lit (.int .u8 0)], .agg [.lit (.int .u8 0), .lit (.int .u8 0)], .agg [.lit (.int .u8 0), .lit (.int .u8 0)], .agg [.lit (.int .u8 0), .lit (.int .u8 0)]]
/-- One of Go's own tables, pinned by name: the form's constant. -/
def laid_unicode_utf8_first : DataW Unit := Go.Pinned.utf8First

/-- 'laws.FnExactReadPart': WHATEVER THE INPUT: true; the input reads as it did. -/
def fnExactReadPartSpec : ChangeSpec := { name := "fnExactReadPart", fn := fun _ => fun
  | [d] => { results := [.lit (.bool true)], args := [d] }
  | _ => none }
def fnExactReadPartRow : OpenClaim := { program := "ytfjabcfmcnphcaadoor", sum := "9fb04ef5c7dae4c055f3fc2539d2e397105f6fc124391e9d59e843fef26679e2", func := "loop.example/g00137/laws.FnExactReadPart", spec := "fnExactReadPart", inPlace := ["internal/bytealg.IndexByteString", "internal/bytealg.IndexString"], named := ["unicode/utf8.first", "unicode/utf8.acceptRanges", "internal/bytealg.MaxLen"], apart := false, laid := [("unicode/utf8.acceptRanges", laid_unicode_utf8_acceptRanges), ("unicode/utf8.first", laid_unicode_utf8_first)] }
def FnExactReadPartSaid : Prop := fnExactReadPartRow.holds Tryd.pinned (OpenSpec.ofChange fnExactReadPartSpec)

/-- ITS FALSE NEIGHBOUR: 'it returns false'. Refute it at one input. -/
def fnExactReadPartWrong : ChangeSpec := { name := "fnExactReadPart", fn := fun _ => fun
  | [d] => { results := [.lit (.bool false)], args := [d] }
  | _ => none }
def FnExactReadPartWrongFalsely : Prop := fnExactReadPartRow.holds Tryd.pinned (OpenSpec.ofChange fnExactReadPartWrong)

/-- 'laws.FnExactReadLength': WHATEVER THE INPUT: true; the input reads as it did. -/
def fnExactReadLengthSpec : ChangeSpec := { name := "fnExactReadLength", fn := fun _ => fun
  | [d] => { results := [.lit (.bool true)], args := [d] }
  | _ => none }
def fnExactReadLengthRow : OpenClaim := { program := "ytfjabcfmcnphcaadoor", sum := "9fb04ef5c7dae4c055f3fc2539d2e397105f6fc124391e9d59e843fef26679e2", func := "loop.example/g00137/laws.FnExactReadLength", spec := "fnExactReadLength", inPlace := ["internal/bytealg.IndexByteString", "internal/bytealg.IndexString"], named := ["unicode/utf8.first", "unicode/utf8.acceptRanges", "internal/bytealg.MaxLen"], apart := false, laid := [("unicode/utf8.acceptRanges", laid_unicode_utf8_acceptRanges), ("unicode/utf8.first", laid_unicode_utf8_first)] }
def FnExactReadLengthSaid : Prop := fnExactReadLengthRow.holds Tryd.pinned (OpenSpec.ofChange fnExactReadLengthSpec)

/-- ITS FALSE NEIGHBOUR: 'it returns false'. Refute it at one input. -/
def fnExactReadLengthWrong : ChangeSpec := { name := "fnExactReadLength", fn := fun _ => fun
  | [d] => { results := [.lit (.bool false)], args := [d] }
  | _ => none }
def FnExactReadLengthWrongFalsely : Prop := fnExactReadLengthRow.holds Tryd.pinned (OpenSpec.ofChange fnExactReadLengthWrong)

/-- 'laws.FnExactReadView': WHATEVER THE INPUT: true; the input reads as it did. -/
def fnExactReadViewSpec : ChangeSpec := { name := "fnExactReadView", fn := fun _ => fun
  | [d] => { results := [.lit (.bool true)], args := [d] }
  | _ => none }
def fnExactReadViewRow : OpenClaim := { program := "ytfjabcfmcnphcaadoor", sum := "9fb04ef5c7dae4c055f3fc2539d2e397105f6fc124391e9d59e843fef26679e2", func := "loop.example/g00137/laws.FnExactReadView", spec := "fnExactReadView", inPlace := ["internal/bytealg.IndexByteString", "internal/bytealg.IndexString"], named := ["unicode/utf8.first", "unicode/utf8.acceptRanges", "internal/bytealg.MaxLen"], apart := false, laid := [("unicode/utf8.acceptRanges", laid_unicode_utf8_acceptRanges), ("unicode/utf8.first", laid_unicode_utf8_first)] }
def FnExactReadViewSaid : Prop := fnExactReadViewRow.holds Tryd.pinned (OpenSpec.ofChange fnExactReadViewSpec)

/-- ITS FALSE NEIGHBOUR: 'it returns false'. Refute it at one input. -/
def fnExactReadViewWrong : ChangeSpec := { name := "fnExactReadView", fn := fun _ => fun
  | [d] => { results := [.lit (.bool false)], args := [d] }
  | _ => none }
def FnExactReadViewWrongFalsely : Prop := fnExactReadViewRow.holds Tryd.pinned (OpenSpec.ofChange fnExactReadViewWrong)

/-- 'laws.FnExactReadNumbers': WHATEVER THE INPUT: true; the input reads as it did. -/
def fnExactReadNumbersSpec : ChangeSpec := { name := "fnExactReadNumbers", fn := fun _ => fun
  | [d] => { results := [.lit (.bool true)], args := [d] }
  | _ => none }
def fnExactReadNumbersRow : OpenClaim := { program := "ytfjabcfmcnphcaadoor", sum := "9fb04ef5c7dae4c055f3fc2539d2e397105f6fc124391e9d59e843fef26679e2", func := "loop.example/g00137/laws.FnExactReadNumbers", spec := "fnExactReadNumbers", inPlace := ["internal/bytealg.IndexByteString", "internal/bytealg.IndexString"], named := ["unicode/utf8.first", "unicode/utf8.acceptRanges", "internal/bytealg.MaxLen"], apart := false, laid := [("unicode/utf8.acceptRanges", laid_unicode_utf8_acceptRanges), ("unicode/utf8.first", laid_unicode_utf8_first)] }
def FnExactReadNumbersSaid : Prop := fnExactReadNumbersRow.holds Tryd.pinned (OpenSpec.ofChange fnExactReadNumbersSpec)

/-- ITS FALSE NEIGHBOUR: 'it returns false'. Refute it at one input. -/
def fnExactReadNumbersWrong : ChangeSpec := { name := "fnExactReadNumbers", fn := fun _ => fun
  | [d] => { results := [.lit (.bool false)], args := [d] }
  | _ => none }
def FnExactReadNumbersWrongFalsely : Prop := fnExactReadNumbersRow.holds Tryd.pinned (OpenSpec.ofChange fnExactReadNumbersWrong)

/-- 'laws.FnExactReadColor': WHATEVER THE INPUT: true; the input reads as it did. -/
def fnExactReadColorSpec : ChangeSpec := { name := "fnExactReadColor", fn := fun _ => fun
  | [d] => { results := [.lit (.bool true)], args := [d] }
  | _ => none }
def fnExactReadColorRow : OpenClaim := { program := "ytfjabcfmcnphcaadoor", sum := "9fb04ef5c7dae4c055f3fc2539d2e397105f6fc124391e9d59e843fef26679e2", func := "loop.example/g00137/laws.FnExactReadColor", spec := "fnExactReadColor", inPlace := ["internal/bytealg.IndexByteString", "internal/bytealg.IndexString", "internal/bytealg.CountString"], named := ["unicode/utf8.first", "unicode/utf8.acceptRanges", "internal/bytealg.MaxLen"], apart := false, laid := [("unicode/utf8.acceptRanges", laid_unicode_utf8_acceptRanges), ("unicode/utf8.first", laid_unicode_utf8_first)] }
def FnExactReadColorSaid : Prop := fnExactReadColorRow.holds Tryd.pinned (OpenSpec.ofChange fnExactReadColorSpec)

/-- ITS FALSE NEIGHBOUR: 'it returns false'. Refute it at one input. -/
def fnExactReadColorWrong : ChangeSpec := { name := "fnExactReadColor", fn := fun _ => fun
  | [d] => { results := [.lit (.bool false)], args := [d] }
  | _ => none }
def FnExactReadColorWrongFalsely : Prop := fnExactReadColorRow.holds Tryd.pinned (OpenSpec.ofChange fnExactReadColorWrong)

/- THE SECOND FORM. 'bulk': how many values and letters a reading holds, each counted each time it is reached (what is shared counts as often as it is met; a slice's spare places count too). A statement '..UptoSaid' is the law's where the arguments, and the package variables that the reading takes, are together of bulk at most 1048576: NARROWER than '..Said'. Prove '..Said' where nothing that the law and all that it calls make is longer than what came in: it says more and counts as full. Else prove '..UptoSaid'. A law counts once. -/
mutual
def uptoBulk {H : Type} : DataW H → Nat
  | .lit (.string bytes) => bytes.length + 1
  | .lit _ => 1
  | .nil => 1
  | .ptr d => uptoBulk d + 1
  | .slice elems spare => uptoBulkAll elems + uptoBulkAll spare + 1
  | .agg parts => uptoBulkAll parts + 1
  | .iface _ d => uptoBulk d + 1
  | .map entries => uptoBulkEntries entries + 1
  | .held _ => 1
def uptoBulkAll {H : Type} : List (DataW H) → Nat
  | [] => 0
  | d :: r => uptoBulk d + uptoBulkAll r
def uptoBulkEntries {H : Type} : List (Lit × DataW H) → Nat
  | [] => 0
  | x :: r => uptoBulkEntry x + uptoBulkEntries r
def uptoBulkEntry {H : Type} : Lit × DataW H → Nat
  | (.string bytes, d) => bytes.length + uptoBulk d + 1
  | (_, d) => uptoBulk d + 1
 end
def uptoSmall : (H : Type) → List (DataW H) → Bool := fun _ ds => decide (uptoBulkAll ds ≤ 1048576)
def OpenSpec.upto (s : _root_.Go.ChangeSpec) : _root_.Go.OpenSpec := { _root_.Go.OpenSpec.ofChange s with cond := some uptoSmall }

/-- 'laws.FnExactReadPart', WHERE WHAT IT READS IS OF BULK AT MOST 1048576: true; the input reads as it did. -/
def fnExactReadPartUptoRow : OpenClaim := { program := "ytfjabcfmcnphcaadoor", sum := "9fb04ef5c7dae4c055f3fc2539d2e397105f6fc124391e9d59e843fef26679e2", func := "loop.example/g00137/laws.FnExactReadPart", spec := "fnExactReadPart", inPlace := ["internal/bytealg.IndexByteString", "internal/bytealg.IndexString"], named := ["unicode/utf8.first", "unicode/utf8.acceptRanges", "internal/bytealg.MaxLen"], apart := false, laid := [("unicode/utf8.acceptRanges", laid_unicode_utf8_acceptRanges), ("unicode/utf8.first", laid_unicode_utf8_first)], narrowed := true }
def FnExactReadPartUptoSaid : Prop := fnExactReadPartUptoRow.holds Tryd.pinned (OpenSpec.upto fnExactReadPartSpec)

/-- 'laws.FnExactReadLength', WHERE WHAT IT READS IS OF BULK AT MOST 1048576: true; the input reads as it did. -/
def fnExactReadLengthUptoRow : OpenClaim := { program := "ytfjabcfmcnphcaadoor", sum := "9fb04ef5c7dae4c055f3fc2539d2e397105f6fc124391e9d59e843fef26679e2", func := "loop.example/g00137/laws.FnExactReadLength", spec := "fnExactReadLength", inPlace := ["internal/bytealg.IndexByteString", "internal/bytealg.IndexString"], named := ["unicode/utf8.first", "unicode/utf8.acceptRanges", "internal/bytealg.MaxLen"], apart := false, laid := [("unicode/utf8.acceptRanges", laid_unicode_utf8_acceptRanges), ("unicode/utf8.first", laid_unicode_utf8_first)], narrowed := true }
def FnExactReadLengthUptoSaid : Prop := fnExactReadLengthUptoRow.holds Tryd.pinned (OpenSpec.upto fnExactReadLengthSpec)

/-- 'laws.FnExactReadView', WHERE WHAT IT READS IS OF BULK AT MOST 1048576: true; the input reads as it did. -/
def fnExactReadViewUptoRow : OpenClaim := { program := "ytfjabcfmcnphcaadoor", sum := "9fb04ef5c7dae4c055f3fc2539d2e397105f6fc124391e9d59e843fef26679e2", func := "loop.example/g00137/laws.FnExactReadView", spec := "fnExactReadView", inPlace := ["internal/bytealg.IndexByteString", "internal/bytealg.IndexString"], named := ["unicode/utf8.first", "unicode/utf8.acceptRanges", "internal/bytealg.MaxLen"], apart := false, laid := [("unicode/utf8.acceptRanges", laid_unicode_utf8_acceptRanges), ("unicode/utf8.first", laid_unicode_utf8_first)], narrowed := true }
def FnExactReadViewUptoSaid : Prop := fnExactReadViewUptoRow.holds Tryd.pinned (OpenSpec.upto fnExactReadViewSpec)

/-- 'laws.FnExactReadNumbers', WHERE WHAT IT READS IS OF BULK AT MOST 1048576: true; the input reads as it did. -/
def fnExactReadNumbersUptoRow : OpenClaim := { program := "ytfjabcfmcnphcaadoor", sum := "9fb04ef5c7dae4c055f3fc2539d2e397105f6fc124391e9d59e843fef26679e2", func := "loop.example/g00137/laws.FnExactReadNumbers", spec := "fnExactReadNumbers", inPlace := ["internal/bytealg.IndexByteString", "internal/bytealg.IndexString"], named := ["unicode/utf8.first", "unicode/utf8.acceptRanges", "internal/bytealg.MaxLen"], apart := false, laid := [("unicode/utf8.acceptRanges", laid_unicode_utf8_acceptRanges), ("unicode/utf8.first", laid_unicode_utf8_first)], narrowed := true }
def FnExactReadNumbersUptoSaid : Prop := fnExactReadNumbersUptoRow.holds Tryd.pinned (OpenSpec.upto fnExactReadNumbersSpec)

/-- 'laws.FnExactReadColor', WHERE WHAT IT READS IS OF BULK AT MOST 1048576: true; the input reads as it did. -/
def fnExactReadColorUptoRow : OpenClaim := { program := "ytfjabcfmcnphcaadoor", sum := "9fb04ef5c7dae4c055f3fc2539d2e397105f6fc124391e9d59e843fef26679e2", func := "loop.example/g00137/laws.FnExactReadColor", spec := "fnExactReadColor", inPlace := ["internal/bytealg.IndexByteString", "internal/bytealg.IndexString", "internal/bytealg.CountString"], named := ["unicode/utf8.first", "unicode/utf8.acceptRanges", "internal/bytealg.MaxLen"], apart := false, laid := [("unicode/utf8.acceptRanges", laid_unicode_utf8_acceptRanges), ("unicode/utf8.first", laid_unicode_utf8_first)], narrowed := true }
def FnExactReadColorUptoSaid : Prop := fnExactReadColorUptoRow.holds Tryd.pinned (OpenSpec.upto fnExactReadColorSpec)

end Rows
end Go.Proofs.YtfjabcfmcnphcaaDoor
