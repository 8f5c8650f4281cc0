-- The words of the print that this claim's texts name (chosen by a program of this session).
import Derived.Test.YtganmdnieihpeaaDoorVN
namespace Go.Proofs.YtganmdnieihpeaaDoorW.PrintWords
open Go.RowKit
namespace Kd
section
variable {α : Type} {d : Kd α} {W : World} {g n : Nat} {S ok : Nat → Prop} {A : Option Addr} {ad : Addr} {xs : List α}
end
end Kd
end Go.Proofs.YtganmdnieihpeaaDoorW.PrintWords
