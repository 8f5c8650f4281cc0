-- The words of the print that this claim's texts name (chosen by a program of this session).
import Derived.Test.YtganmdnieihpeaaDoorVTab
namespace Go.Proofs.YtganmdnieihpeaaDoorW.PrintLast
section
variable {P : Program} {ops : Array Oper} {Q : Exit → Act → World → Prop} {md : Region.Mode} {S : World → Prop} {ds : List Nat} {T : Bool × List (List Nat × List Nat)}
end
end Go.Proofs.YtganmdnieihpeaaDoorW.PrintLast
