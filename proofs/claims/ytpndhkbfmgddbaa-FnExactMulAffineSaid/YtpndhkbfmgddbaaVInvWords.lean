-- The words of the print that this claim's texts name (chosen by a program of this session).
import Derived.Test.YtpndhkbfmgddbaaVInv
import Derived.Test.YtpndhkbfmgddbaaVFootNe
namespace Go.Proofs.YtpndhkbfmgddbaaW.PrintWords
open Go.RowKit
end Go.Proofs.YtpndhkbfmgddbaaW.PrintWords
namespace Go.Proofs.YtpndhkbfmgddbaaW.PrintLast
section
variable {ops : Array Oper} {a : Act} {o og : Oper} {g : Nat} {t : Tmp} {u : Bool}
end
end Go.Proofs.YtpndhkbfmgddbaaW.PrintLast
