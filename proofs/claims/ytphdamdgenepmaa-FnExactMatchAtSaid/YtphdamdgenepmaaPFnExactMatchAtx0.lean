-- PRINTED BY print.sh 35421559b90ae4d0a3588c463048766b98c2df88dd9212a6774a882060cdf62d: not written by this session
import Derived.Test.YtphdamdgenepmaaProg
import Derived.Below
import Derived.Deep.Draws
import Derived.Deep.AppendLies
import Derived.Maps.AppendAt
import Derived.OwnWalk
import Derived.Laws.BytesArg
import Derived.Laws.MakeOwn
import Derived.Laws.OwnMore
import Derived.Deep.OwnRows
import Derived.Tactics
import Derived.Lib.ConvBytes
import Derived.Laws.Slices
import Derived.WalkKit
import Derived.KernelRfl
import Derived.RowKit3
import Derived.Deep.LoopGhost
import Derived.Deep.QuietTactic
import Derived.BigQuiet
import Derived.WideLaws
import Derived.Deep.DeepCutAuto
import Derived.Deep.CutBlock
import Derived.Deep.RegionHeld3
import Derived.Laws.Rows
import Derived.Lib.AppendStr
import Derived.ArgAppend
import Derived.Laws.IdiomCopy
import Derived.OrdersHeld
import Derived.Laws.BitsLemmas
import Derived.RowKit
import Derived.Test.YtphdamdgenepmaaWWords
import Derived.Test.YtphdamdgenepmaaWLast
import Derived.Test.YtphdamdgenepmaaWTab
import Derived.Test.YtphdamdgenepmaaWFour
import Derived.Test.YtphdamdgenepmaaWQPut
import Derived.Test.YtphdamdgenepmaaWApart
import Derived.Test.YtphdamdgenepmaaWArr
import Derived.Test.YtphdamdgenepmaaWZeros
import Derived.Test.YtphdamdgenepmaaWFoot
import Derived.Test.YtphdamdgenepmaaWKept
import Derived.Test.YtphdamdgenepmaaWShare
import Derived.Test.YtphdamdgenepmaaWN
import Derived.Test.YtphdamdgenepmaaWFootNe
import Derived.Test.YtphdamdgenepmaaWAt
import Derived.Test.YtphdamdgenepmaaWEqStruct
import Derived.Test.YtphdamdgenepmaaWRepsOne
import Derived.Test.YtphdamdgenepmaaWInv
import Derived.Test.YtphdamdgenepmaaWInvWords
import Derived.Test.YtphdamdgenepmaaWGuard
import Derived.Test.YtphdamdgenepmaaWNEv
import Derived.Test.YtphdamdgenepmaaWMore
namespace Go.Proofs.Ytphdamdgenepmaa.PFnExactMatchAt
open Go.RowKit Go.Proofs.YtphdamdgenepmaaW.PrintWords Go.Proofs.YtphdamdgenepmaaW.PrintLast Go.Proofs.YtphdamdgenepmaaW.PrintMore
attribute [local go_sem] max2_int min2_int max_two min_two max_three min_three max_four min_four   -- for this text's walks alone
set_option linter.unusedVariables false
set_option linter.unusedSimpArgs false



def errW : Option Int → Value
  | none => .nilIface
  | some c => .iface 0 (.int .i64 c)
theorem errW_none : errW none = .nilIface := rfl
theorem errW_some (c : Int) : errW (some c) = .iface 0 (.int .i64 c) := rfl

theorem info5 : (Try.prog.info? 5).map (fun i => (i.zero, i.size, i.bytes)) = some (some (.int .u8 0), 1, 1) := by kernel_rfl
-- the values' own types

end Go.Proofs.Ytphdamdgenepmaa.PFnExactMatchAt
