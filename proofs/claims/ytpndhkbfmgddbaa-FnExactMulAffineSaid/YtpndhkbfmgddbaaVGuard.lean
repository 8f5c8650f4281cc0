-- The words of the print that this claim's texts name (chosen by a program of this session).
import Derived.Test.YtpndhkbfmgddbaaVWords
namespace Go.Proofs.YtpndhkbfmgddbaaW.PrintWords
open Go.RowKit
section
variable {P : Program} {ops : Array Oper} {rest : List Oper} {o : Oper} {a : Act} {Q : Exit → Act → World → Prop} {W : World}
end
end Go.Proofs.YtpndhkbfmgddbaaW.PrintWords
