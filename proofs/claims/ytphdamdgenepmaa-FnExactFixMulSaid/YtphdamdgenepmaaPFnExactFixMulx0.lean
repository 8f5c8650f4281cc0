-- Laid by a program of this session out of the translation (its own run of the print). Lean checks it.
import Derived.Test.YtphdamdgenepmaaProg
import Derived.Below
import Derived.Deep.Draws
import Derived.Deep.AppendLies
import Derived.Maps.AppendAt
import Derived.OwnWalk
import Derived.Laws.BytesArg
import Derived.Laws.MakeOwn
import Derived.Laws.OwnMore
import Derived.Deep.OwnRows
import Derived.Tactics
import Derived.Lib.ConvBytes
import Derived.Laws.Slices
import Derived.WalkKit
import Derived.KernelRfl
import Derived.RowKit3
import Derived.Deep.LoopGhost
import Derived.Deep.QuietTactic
import Derived.BigQuiet
import Derived.WideLaws
import Derived.Deep.DeepCutAuto
import Derived.Deep.CutBlock
import Derived.Deep.RegionHeld3
import Derived.Laws.Rows
import Derived.Lib.AppendStr
import Derived.ArgAppend
import Derived.Laws.IdiomCopy
import Derived.OrdersHeld
import Derived.Laws.BitsLemmas
import Derived.RowKit
import Derived.Test.YtphdamdgenepmaaWWords
import Derived.Test.YtphdamdgenepmaaWLast
import Derived.Test.YtphdamdgenepmaaWTab
import Derived.Test.YtphdamdgenepmaaWFour
import Derived.Test.YtphdamdgenepmaaWQPut
import Derived.Test.YtphdamdgenepmaaWApart
import Derived.Test.YtphdamdgenepmaaWArr
import Derived.Test.YtphdamdgenepmaaWZeros
import Derived.Test.YtphdamdgenepmaaWFoot
import Derived.Test.YtphdamdgenepmaaWKept
import Derived.Test.YtphdamdgenepmaaWShare
import Derived.Test.YtphdamdgenepmaaWN
import Derived.Test.YtphdamdgenepmaaWFootNe
import Derived.Test.YtphdamdgenepmaaWAt
import Derived.Test.YtphdamdgenepmaaWEqStruct
import Derived.Test.YtphdamdgenepmaaWRepsOne
import Derived.Test.YtphdamdgenepmaaWInv
import Derived.Test.YtphdamdgenepmaaWInvWords
import Derived.Test.YtphdamdgenepmaaWGuard
import Derived.Test.YtphdamdgenepmaaWNEv
import Derived.Test.YtphdamdgenepmaaWMore
namespace Go.Proofs.Ytphdamdgenepmaa.PFnExactFixMul
open Go.RowKit Go.Proofs.YtphdamdgenepmaaW.PrintWords Go.Proofs.YtphdamdgenepmaaW.PrintLast Go.Proofs.YtphdamdgenepmaaW.PrintMore
attribute [local go_sem] max2_int min2_int max_two min_two max_three min_three max_four min_four   -- for this text's walks alone
set_option linter.unusedVariables false
set_option linter.unusedSimpArgs false



def errW : Option Int → Value
  | none => .nilIface
  | some c => .iface 0 (.int .i64 c)
theorem errW_none : errW none = .nilIface := rfl
theorem errW_some (c : Int) : errW (some c) = .iface 0 (.int .i64 c) := rfl

def add64s (x y : Int) : Int := ((x.toNat + y.toNat : Nat) : Int) % 18446744073709551616
def add64c (x y : Int) : Int := ((x.toNat + y.toNat : Nat) : Int) / 18446744073709551616
def add64Entry_ : Array Value → Sem Value := fun args => do
  let (x, y, c) ← Extern.MathBitsCarry.three "Add64" args
  pure (Extern.MathBitsCarry.pair ((x + y + c) % Extern.MathBitsCarry.m64) ((x + y + c) / Extern.MathBitsCarry.m64))
theorem run_add64_ {P : Program} (x y : Int) (w : World) : (add64Entry_ #[.int .u64 x, .int .u64 y, .int .u64 0]).run P w = .ok (.tuple #[.int .u64 (add64s x y), .int .u64 (add64c x y)]) w := by
  have h : (add64Entry_ #[.int .u64 x, .int .u64 y, .int .u64 0]).run P w = .ok (Extern.MathBitsCarry.pair ((x.toNat + y.toNat + 0) % Extern.MathBitsCarry.m64) ((x.toNat + y.toNat + 0) / Extern.MathBitsCarry.m64)) w := rfl
  rw [h]
  rfl
theorem call_add64 (x y : Int) (w : World) : (callFunc 60 #[.int .u64 x, .int .u64 y, .int .u64 0]).run Try.prog w = .ok (.value (.tuple #[.int .u64 (add64s x y), .int .u64 (add64c x y)])) w := by
  rw [run_callFunc_extern Try.func60 (by kernel_rfl) (by kernel_rfl) (by kernel_rfl) (e := add64Entry_) (by kernel_rfl), run_add64_]
  rfl

theorem info3 : (Try.prog.info? 3).map (fun i => (i.zero, i.size, i.bytes)) = some (some (.int .i64 0), 1, 8) := by kernel_rfl
-- the values' own types

end Go.Proofs.Ytphdamdgenepmaa.PFnExactFixMul
