-- The words of the print that this claim's texts name (chosen by a program of this session).
import Derived.Test.YtganmdnieihpeaaDoorVInv
import Derived.Test.YtganmdnieihpeaaDoorVFootNe
namespace Go.Proofs.YtganmdnieihpeaaDoorW.PrintWords
open Go.RowKit
end Go.Proofs.YtganmdnieihpeaaDoorW.PrintWords
namespace Go.Proofs.YtganmdnieihpeaaDoorW.PrintLast
section
variable {ops : Array Oper} {a : Act} {o og : Oper} {g : Nat} {t : Tmp} {u : Bool}
end
end Go.Proofs.YtganmdnieihpeaaDoorW.PrintLast
