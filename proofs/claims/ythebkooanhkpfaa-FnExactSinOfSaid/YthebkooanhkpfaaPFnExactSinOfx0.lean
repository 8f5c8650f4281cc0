-- Laid by a program of this session out of the translation (its own run of the print). Lean checks it.
import Derived.Test.YthebkooanhkpfaaProg
import Derived.Below
import Derived.Deep.Draws
import Derived.Deep.AppendLies
import Derived.Maps.AppendAt
import Derived.OwnWalk
import Derived.Laws.BytesArg
import Derived.Laws.MakeOwn
import Derived.Laws.OwnMore
import Derived.Deep.OwnRows
import Derived.Tactics
import Derived.Lib.ConvBytes
import Derived.Laws.Slices
import Derived.WalkKit
import Derived.KernelRfl
import Derived.RowKit3
import Derived.Deep.LoopGhost
import Derived.Deep.QuietTactic
import Derived.BigQuiet
import Derived.WideLaws
import Derived.Deep.DeepCutAuto
import Derived.Deep.CutBlock
import Derived.Deep.RegionHeld3
import Derived.Laws.Rows
import Derived.Lib.AppendStr
import Derived.ArgAppend
import Derived.Laws.IdiomCopy
import Derived.OrdersHeld
import Derived.Laws.BitsLemmas
import Derived.RowKit
import Derived.Test.YthebkooanhkpfaaWWords
import Derived.Test.YthebkooanhkpfaaWLast
import Derived.Test.YthebkooanhkpfaaWTab
import Derived.Test.YthebkooanhkpfaaWFour
import Derived.Test.YthebkooanhkpfaaWQPut
import Derived.Test.YthebkooanhkpfaaWApart
import Derived.Test.YthebkooanhkpfaaWArr
import Derived.Test.YthebkooanhkpfaaWZeros
import Derived.Test.YthebkooanhkpfaaWFoot
import Derived.Test.YthebkooanhkpfaaWKept
import Derived.Test.YthebkooanhkpfaaWShare
import Derived.Test.YthebkooanhkpfaaWN
import Derived.Test.YthebkooanhkpfaaWFootNe
import Derived.Test.YthebkooanhkpfaaWAt
import Derived.Test.YthebkooanhkpfaaWEqStruct
import Derived.Test.YthebkooanhkpfaaWRepsOne
import Derived.Test.YthebkooanhkpfaaWInv
import Derived.Test.YthebkooanhkpfaaWInvWords
import Derived.Test.YthebkooanhkpfaaWGuard
import Derived.Test.YthebkooanhkpfaaWNEv
import Derived.Test.YthebkooanhkpfaaWMore
namespace Go.Proofs.Ythebkooanhkpfaa.PFnExactSinOf
open Go.RowKit Go.Proofs.YthebkooanhkpfaaW.PrintWords Go.Proofs.YthebkooanhkpfaaW.PrintLast Go.Proofs.YthebkooanhkpfaaW.PrintMore
attribute [local go_sem] max2_int min2_int max_two min_two max_three min_three max_four min_four   -- for this text's walks alone
set_option linter.unusedVariables false
set_option linter.unusedSimpArgs false



def errW : Option Int → Value
  | none => .nilIface
  | some c => .iface 0 (.int .i64 c)
theorem errW_none : errW none = .nilIface := rfl
theorem errW_some (c : Int) : errW (some c) = .iface 0 (.int .i64 c) := rfl

theorem info3 : (Try.prog.info? 3).map (fun i => (i.zero, i.size, i.bytes)) = some (some (.int .i64 0), 1, 8) := by kernel_rfl
-- the values' own types

end Go.Proofs.Ythebkooanhkpfaa.PFnExactSinOf
