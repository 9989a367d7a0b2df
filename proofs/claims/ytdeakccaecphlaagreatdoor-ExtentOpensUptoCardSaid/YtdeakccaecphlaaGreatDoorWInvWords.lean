-- The words of the kit's print (OWN=1), cut by a program of this session to what the seat's texts reach.
import Derived.Test.YtdeakccaecphlaaGreatDoorWInv
import Derived.Test.YtdeakccaecphlaaGreatDoorWFootNe
namespace Go.Proofs.YtdeakccaecphlaaGreatDoorW.PrintWords
open Go.RowKit
end Go.Proofs.YtdeakccaecphlaaGreatDoorW.PrintWords
namespace Go.Proofs.YtdeakccaecphlaaGreatDoorW.PrintLast
section
variable {ops : Array Oper} {a : Act} {o og : Oper} {g : Nat} {t : Tmp} {u : Bool}
end
end Go.Proofs.YtdeakccaecphlaaGreatDoorW.PrintLast
