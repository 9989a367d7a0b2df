-- The words of the kit's print (OWN=1), cut by a program of this session to what the seat's texts reach.
import Derived.Test.YtdeakccaecphlaaGreatDoorWN
namespace Go.Proofs.YtdeakccaecphlaaGreatDoorW.PrintWords
open Go.RowKit
namespace Kd
section
variable {α : Type} {d : Kd α} {W : World} {g n : Nat} {S ok : Nat → Prop} {A : Option Addr} {ad : Addr} {xs : List α}
end
end Kd
end Go.Proofs.YtdeakccaecphlaaGreatDoorW.PrintWords
