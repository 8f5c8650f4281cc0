-- The words of the print that this claim's texts name (chosen by a program of this session).
import Derived.Test.YtpndhkbfmgddbaaDoorVInv
import Derived.Test.YtpndhkbfmgddbaaDoorVFootNe
namespace Go.Proofs.YtpndhkbfmgddbaaDoorW.PrintWords
open Go.RowKit
end Go.Proofs.YtpndhkbfmgddbaaDoorW.PrintWords
namespace Go.Proofs.YtpndhkbfmgddbaaDoorW.PrintLast
section
variable {ops : Array Oper} {a : Act} {o og : Oper} {g : Nat} {t : Tmp} {u : Bool}
end
end Go.Proofs.YtpndhkbfmgddbaaDoorW.PrintLast
