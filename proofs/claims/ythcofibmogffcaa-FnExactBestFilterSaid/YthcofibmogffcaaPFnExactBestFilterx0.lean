-- Laid by a program of this session out of the translation (its own run of the print). Lean checks it.
import Derived.Test.YthcofibmogffcaaProg
import Derived.Below
import Derived.Deep.Draws
import Derived.Deep.AppendLies
import Derived.Maps.AppendAt
import Derived.OwnWalk
import Derived.Laws.BytesArg
import Derived.Laws.MakeOwn
import Derived.Laws.OwnMore
import Derived.Deep.OwnRows
import Derived.Tactics
import Derived.Lib.ConvBytes
import Derived.Laws.Slices
import Derived.WalkKit
import Derived.KernelRfl
import Derived.RowKit3
import Derived.Deep.LoopGhost
import Derived.Deep.QuietTactic
import Derived.BigQuiet
import Derived.WideLaws
import Derived.Deep.DeepCutAuto
import Derived.Deep.CutBlock
import Derived.Deep.RegionHeld3
import Derived.Laws.Rows
import Derived.Lib.AppendStr
import Derived.ArgAppend
import Derived.Laws.IdiomCopy
import Derived.OrdersHeld
import Derived.Laws.BitsLemmas
import Derived.RowKit
import Derived.Test.YthcofibmogffcaaWWords
import Derived.Test.YthcofibmogffcaaWLast
import Derived.Test.YthcofibmogffcaaWTab
import Derived.Test.YthcofibmogffcaaWFour
import Derived.Test.YthcofibmogffcaaWQPut
import Derived.Test.YthcofibmogffcaaWApart
import Derived.Test.YthcofibmogffcaaWArr
import Derived.Test.YthcofibmogffcaaWZeros
import Derived.Test.YthcofibmogffcaaWFoot
import Derived.Test.YthcofibmogffcaaWKept
import Derived.Test.YthcofibmogffcaaWShare
import Derived.Test.YthcofibmogffcaaWN
import Derived.Test.YthcofibmogffcaaWFootNe
import Derived.Test.YthcofibmogffcaaWAt
import Derived.Test.YthcofibmogffcaaWEqStruct
import Derived.Test.YthcofibmogffcaaWRepsOne
import Derived.Test.YthcofibmogffcaaWInv
import Derived.Test.YthcofibmogffcaaWInvWords
import Derived.Test.YthcofibmogffcaaWGuard
import Derived.Test.YthcofibmogffcaaWNEv
import Derived.Test.YthcofibmogffcaaWMore
namespace Go.Proofs.Ythcofibmogffcaa.PFnExactBestFilter
open Go.RowKit Go.Proofs.YthcofibmogffcaaW.PrintWords Go.Proofs.YthcofibmogffcaaW.PrintLast Go.Proofs.YthcofibmogffcaaW.PrintMore
attribute [local go_sem] max2_int min2_int max_two min_two max_three min_three max_four min_four   -- for this text's walks alone
set_option linter.unusedVariables false
set_option linter.unusedSimpArgs false



def errW : Option Int → Value
  | none => .nilIface
  | some c => .iface 0 (.int .i64 c)
theorem errW_none : errW none = .nilIface := rfl
theorem errW_some (c : Int) : errW (some c) = .iface 0 (.int .i64 c) := rfl

theorem info5 : (Try.prog.info? 5).map (fun i => (i.zero, i.size, i.bytes)) = some (some (.int .u8 0), 1, 1) := by kernel_rfl
-- the values' own types

end Go.Proofs.Ythcofibmogffcaa.PFnExactBestFilter
