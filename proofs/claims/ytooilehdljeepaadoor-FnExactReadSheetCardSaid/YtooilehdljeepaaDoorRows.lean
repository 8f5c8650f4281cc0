/-
  NARROWER THAN 'FOR EVERY INPUT', by the rows' own cells (each row's printed sentence says how): FnExactReadColor: laid · FnExactMatches: laid · FnExactHasCycle: laid · FnExactReadSheet: laid.
  DERIVED. THE GIVEN ROWS OF THIS SEAT. 4 by the template 'for every input the law returns true; each argument reads behind the call as it read before'; 0 by the template 'total and deterministic' (their statements: YtooilehdljeepaaDoorTotals.lean).
  GIVEN WITH THE SEED: the statements are not yours to turn. If you find one false, say at which input.
  Laid BY PROGRAM, IN A SANDBOX (cutbox-rows.mjs): the forced cells as the released guide's own fill.sh prints them over the translation 19f7e26e553ec94a… (all of the seat's roots in one cut). By AI agents, Wed Nov 11 2026. No macro, syntax, notation, axiom, sorry.
-/
import Derived.Test.YtooilehdljeepaaDoorChecked
import GoSem.PinnedTables
import GoSem.Claim
import GoSem.ClaimJoined
import GoSem.ClaimMapViews
import Derived.JoinedTies
import Derived.KernelRfl
namespace Go.Proofs.YtooilehdljeepaaDoor
/- THE CELL 'sum', in the pinned program and in every row, IS THE sha256 OF THE DUMP (.gsa) THAT YtooilehdljeepaaDoorProg.lean LOADS. Nothing in Lean hashes anything: it is a label: what it is worth is what the hold of that sum in a sandbox is worth. -/
noncomputable def Tryd.pinned : Pinned := { name := "ytooilehdljeepaadoor", sum := "19f7e26e553ec94addfb7b59b3a07824ffe430a4427af4a47ba5f7ee78c2e390", checked := Tryd.checked }
namespace Rows
def none {H : Type} : Left H := { results := [], args := [] }

/- WHAT THE LISTED PACKAGE-LEVEL VARIABLES READ AS WHEN THE CALL BEGINS. Each datum BY PROGRAM (the guide's laid-datum.mjs) off the statement by which the dump's own 'gosem.cut.vars' lays the variable. In a bare row this is a premise. The card (YtooilehdljeepaaDoorCards.lean) ties it to the program's text. -/
def laid_unicode_utf8_acceptRanges {H : Type} : DataW H := .agg [.agg [.lit (.int .u8 128), .lit (.int .u8 191)], .agg [.lit (.int .u8 160), .lit (.int .u8 191)], .agg [.lit (.int .u8 128), .lit (.int .u8 159)], .agg [.lit (.int .u8 144), .lit (.int .u8 191)], .agg [.lit (.int .u8 128), .lit (.int .u8 143)], .agg [.lit (.int .u8 0), .lit (.int .u8 0)], .agg [.lit (.int .u8 0), .lit (.int .u8 0)], .agg [.lit (.int .u8 0), .lit (.int .u8 0)], .agg [.lit (.int .u8 0), .lit (.int .u8 0)], .agg [.lit (.int .u8 0), .lit (.int .u8 0)], .agg [.lit (.int .u8 0), .lit (.int .u8 0)], .agg [.lit (.int .u8 0), .lit (.int .u8 0)], .agg [.lit (.int .u8 0), .lit (.int .u8 0)], .agg [.lit (.int .u8 0), .lit (.int .u8 0)], .agg [.lit (.int .u8 0), .lit (.int .u8 0)], .agg [.lit (.int .u8 0), .lit (.int .u8 0)]]
/-- One of Go's own tables, pinned by name: the form's constant. -/
def laid_unicode_utf8_first : DataW Unit := Go.Pinned.utf8First

/-- 'laws.FnExactReadColor': WHATEVER THE INPUT: true; the input reads as it did. -/
def fnExactReadColorSpec : ChangeSpec := { name := "fnExactReadColor", fn := fun _ => fun
  | [d] => { results := [.lit (.bool true)], args := [d] }
  | _ => none }
def fnExactReadColorRow : OpenClaim := { program := "ytooilehdljeepaadoor", sum := "19f7e26e553ec94addfb7b59b3a07824ffe430a4427af4a47ba5f7ee78c2e390", func := "loop.example/g00137/laws.FnExactReadColor", spec := "fnExactReadColor", inPlace := ["internal/bytealg.IndexByteString", "internal/bytealg.IndexString", "internal/bytealg.CountString"], named := ["unicode/utf8.first", "unicode/utf8.acceptRanges", "internal/bytealg.MaxLen"], apart := false, laid := [("unicode/utf8.acceptRanges", laid_unicode_utf8_acceptRanges), ("unicode/utf8.first", laid_unicode_utf8_first)] }
def FnExactReadColorSaid : Prop := fnExactReadColorRow.holds Tryd.pinned (OpenSpec.ofChange fnExactReadColorSpec)

/-- ITS FALSE NEIGHBOUR: 'it returns false'. Refute it at one input. -/
def fnExactReadColorWrong : ChangeSpec := { name := "fnExactReadColor", fn := fun _ => fun
  | [d] => { results := [.lit (.bool false)], args := [d] }
  | _ => none }
def FnExactReadColorWrongFalsely : Prop := fnExactReadColorRow.holds Tryd.pinned (OpenSpec.ofChange fnExactReadColorWrong)

/-- 'laws.FnExactMatches': WHATEVER THE INPUT: true; the input reads as it did. -/
def fnExactMatchesSpec : ChangeSpec := { name := "fnExactMatches", fn := fun _ => fun
  | [d1, d2, d3] => { results := [.lit (.bool true)], args := [d1, d2, d3] }
  | _ => none }
def fnExactMatchesRow : OpenClaim := { program := "ytooilehdljeepaadoor", sum := "19f7e26e553ec94addfb7b59b3a07824ffe430a4427af4a47ba5f7ee78c2e390", func := "loop.example/g00137/laws.FnExactMatches", spec := "fnExactMatches", unfollowed := true, recurses := true, named := ["unicode/utf8.first", "unicode/utf8.acceptRanges"], apart := false, laid := [("unicode/utf8.acceptRanges", laid_unicode_utf8_acceptRanges), ("unicode/utf8.first", laid_unicode_utf8_first)] }
def FnExactMatchesSaid : Prop := fnExactMatchesRow.holds Tryd.pinned (OpenSpec.ofChange fnExactMatchesSpec)

/-- ITS FALSE NEIGHBOUR: 'it returns false'. Refute it at one input. -/
def fnExactMatchesWrong : ChangeSpec := { name := "fnExactMatches", fn := fun _ => fun
  | [d1, d2, d3] => { results := [.lit (.bool false)], args := [d1, d2, d3] }
  | _ => none }
def FnExactMatchesWrongFalsely : Prop := fnExactMatchesRow.holds Tryd.pinned (OpenSpec.ofChange fnExactMatchesWrong)

/-- 'laws.FnExactHasCycle': WHATEVER THE INPUT: true; the input reads as it did. -/
def fnExactHasCycleSpec : ChangeSpec := { name := "fnExactHasCycle", fn := fun _ => fun
  | [d] => { results := [.lit (.bool true)], args := [d] }
  | _ => none }
def fnExactHasCycleRow : OpenClaim := { program := "ytooilehdljeepaadoor", sum := "19f7e26e553ec94addfb7b59b3a07824ffe430a4427af4a47ba5f7ee78c2e390", func := "loop.example/g00137/laws.FnExactHasCycle", spec := "fnExactHasCycle", recurses := true, named := ["unicode/utf8.first", "unicode/utf8.acceptRanges"], apart := false, laid := [("unicode/utf8.acceptRanges", laid_unicode_utf8_acceptRanges), ("unicode/utf8.first", laid_unicode_utf8_first)] }
def FnExactHasCycleSaid : Prop := fnExactHasCycleRow.holds Tryd.pinned (OpenSpec.ofChange fnExactHasCycleSpec)

/-- ITS FALSE NEIGHBOUR: 'it returns false'. Refute it at one input. -/
def fnExactHasCycleWrong : ChangeSpec := { name := "fnExactHasCycle", fn := fun _ => fun
  | [d] => { results := [.lit (.bool false)], args := [d] }
  | _ => none }
def FnExactHasCycleWrongFalsely : Prop := fnExactHasCycleRow.holds Tryd.pinned (OpenSpec.ofChange fnExactHasCycleWrong)

/-- 'laws.FnExactReadSheet': WHATEVER THE INPUT: true; the input reads as it did. -/
def fnExactReadSheetSpec : ChangeSpec := { name := "fnExactReadSheet", fn := fun _ => fun
  | [d] => { results := [.lit (.bool true)], args := [d] }
  | _ => none }
def fnExactReadSheetRow : OpenClaim := { program := "ytooilehdljeepaadoor", sum := "19f7e26e553ec94addfb7b59b3a07824ffe430a4427af4a47ba5f7ee78c2e390", func := "loop.example/g00137/laws.FnExactReadSheet", spec := "fnExactReadSheet", inPlace := ["internal/bytealg.IndexByteString", "internal/bytealg.IndexString", "internal/bytealg.CountString"], unfollowed := true, recurses := true, named := ["internal/bytealg.MaxLen", "unicode/utf8.first", "unicode/utf8.acceptRanges"], apart := false, laid := [("unicode/utf8.acceptRanges", laid_unicode_utf8_acceptRanges), ("unicode/utf8.first", laid_unicode_utf8_first)] }
def FnExactReadSheetSaid : Prop := fnExactReadSheetRow.holds Tryd.pinned (OpenSpec.ofChange fnExactReadSheetSpec)

/-- ITS FALSE NEIGHBOUR: 'it returns false'. Refute it at one input. -/
def fnExactReadSheetWrong : ChangeSpec := { name := "fnExactReadSheet", fn := fun _ => fun
  | [d] => { results := [.lit (.bool false)], args := [d] }
  | _ => none }
def FnExactReadSheetWrongFalsely : Prop := fnExactReadSheetRow.holds Tryd.pinned (OpenSpec.ofChange fnExactReadSheetWrong)

/- THE SECOND FORM. 'bulk': how many values and letters a reading holds, each counted each time it is reached (what is shared counts as often as it is met; a slice's spare places count too). A statement '..UptoSaid' is the law's where the arguments, and the package variables that the reading takes, are together of bulk at most 1048576: NARROWER than '..Said'. Prove '..Said' where nothing that the law and all that it calls make is longer than what came in: it says more and counts as full. Else prove '..UptoSaid'. A law counts once. -/
mutual
def uptoBulk {H : Type} : DataW H → Nat
  | .lit (.string bytes) => bytes.length + 1
  | .lit _ => 1
  | .nil => 1
  | .ptr d => uptoBulk d + 1
  | .slice elems spare => uptoBulkAll elems + uptoBulkAll spare + 1
  | .agg parts => uptoBulkAll parts + 1
  | .iface _ d => uptoBulk d + 1
  | .map entries => uptoBulkEntries entries + 1
  | .held _ => 1
def uptoBulkAll {H : Type} : List (DataW H) → Nat
  | [] => 0
  | d :: r => uptoBulk d + uptoBulkAll r
def uptoBulkEntries {H : Type} : List (Lit × DataW H) → Nat
  | [] => 0
  | x :: r => uptoBulkEntry x + uptoBulkEntries r
def uptoBulkEntry {H : Type} : Lit × DataW H → Nat
  | (.string bytes, d) => bytes.length + uptoBulk d + 1
  | (_, d) => uptoBulk d + 1
 end
def uptoSmall : (H : Type) → List (DataW H) → Bool := fun _ ds => decide (uptoBulkAll ds ≤ 1048576)
def OpenSpec.upto (s : _root_.Go.ChangeSpec) : _root_.Go.OpenSpec := { _root_.Go.OpenSpec.ofChange s with cond := some uptoSmall }

/-- 'laws.FnExactReadColor', WHERE WHAT IT READS IS OF BULK AT MOST 1048576: true; the input reads as it did. -/
def fnExactReadColorUptoRow : OpenClaim := { program := "ytooilehdljeepaadoor", sum := "19f7e26e553ec94addfb7b59b3a07824ffe430a4427af4a47ba5f7ee78c2e390", func := "loop.example/g00137/laws.FnExactReadColor", spec := "fnExactReadColor", inPlace := ["internal/bytealg.IndexByteString", "internal/bytealg.IndexString", "internal/bytealg.CountString"], named := ["unicode/utf8.first", "unicode/utf8.acceptRanges", "internal/bytealg.MaxLen"], apart := false, laid := [("unicode/utf8.acceptRanges", laid_unicode_utf8_acceptRanges), ("unicode/utf8.first", laid_unicode_utf8_first)], narrowed := true }
def FnExactReadColorUptoSaid : Prop := fnExactReadColorUptoRow.holds Tryd.pinned (OpenSpec.upto fnExactReadColorSpec)

/-- 'laws.FnExactMatches', WHERE WHAT IT READS IS OF BULK AT MOST 1048576: true; the input reads as it did. -/
def fnExactMatchesUptoRow : OpenClaim := { program := "ytooilehdljeepaadoor", sum := "19f7e26e553ec94addfb7b59b3a07824ffe430a4427af4a47ba5f7ee78c2e390", func := "loop.example/g00137/laws.FnExactMatches", spec := "fnExactMatches", unfollowed := true, recurses := true, named := ["unicode/utf8.first", "unicode/utf8.acceptRanges"], apart := false, laid := [("unicode/utf8.acceptRanges", laid_unicode_utf8_acceptRanges), ("unicode/utf8.first", laid_unicode_utf8_first)], narrowed := true }
def FnExactMatchesUptoSaid : Prop := fnExactMatchesUptoRow.holds Tryd.pinned (OpenSpec.upto fnExactMatchesSpec)

/-- 'laws.FnExactHasCycle', WHERE WHAT IT READS IS OF BULK AT MOST 1048576: true; the input reads as it did. -/
def fnExactHasCycleUptoRow : OpenClaim := { program := "ytooilehdljeepaadoor", sum := "19f7e26e553ec94addfb7b59b3a07824ffe430a4427af4a47ba5f7ee78c2e390", func := "loop.example/g00137/laws.FnExactHasCycle", spec := "fnExactHasCycle", recurses := true, named := ["unicode/utf8.first", "unicode/utf8.acceptRanges"], apart := false, laid := [("unicode/utf8.acceptRanges", laid_unicode_utf8_acceptRanges), ("unicode/utf8.first", laid_unicode_utf8_first)], narrowed := true }
def FnExactHasCycleUptoSaid : Prop := fnExactHasCycleUptoRow.holds Tryd.pinned (OpenSpec.upto fnExactHasCycleSpec)

/-- 'laws.FnExactReadSheet', WHERE WHAT IT READS IS OF BULK AT MOST 1048576: true; the input reads as it did. -/
def fnExactReadSheetUptoRow : OpenClaim := { program := "ytooilehdljeepaadoor", sum := "19f7e26e553ec94addfb7b59b3a07824ffe430a4427af4a47ba5f7ee78c2e390", func := "loop.example/g00137/laws.FnExactReadSheet", spec := "fnExactReadSheet", inPlace := ["internal/bytealg.IndexByteString", "internal/bytealg.IndexString", "internal/bytealg.CountString"], unfollowed := true, recurses := true, named := ["internal/bytealg.MaxLen", "unicode/utf8.first", "unicode/utf8.acceptRanges"], apart := false, laid := [("unicode/utf8.acceptRanges", laid_unicode_utf8_acceptRanges), ("unicode/utf8.first", laid_unicode_utf8_first)], narrowed := true }
def FnExactReadSheetUptoSaid : Prop := fnExactReadSheetUptoRow.holds Tryd.pinned (OpenSpec.upto fnExactReadSheetSpec)

end Rows
end Go.Proofs.YtooilehdljeepaaDoor
