-- The words of the print that this claim's texts name (chosen by a program of this session).
import Derived.Test.YtganmdnieihpeaaDoorVWords
import Derived.Laws.StructEq
namespace Go.Proofs.YtganmdnieihpeaaDoorW.PrintWords
open Go.RowKit
section
variable {P : Program} {d : Nat} {xs ys : Array Value} {f : Field} {fs : List Field} {a b : Value} {r s : Bool} {w : World}
end
end Go.Proofs.YtganmdnieihpeaaDoorW.PrintWords
