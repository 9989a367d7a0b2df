-- The words of the kit's print (OWN=1), cut by a program of this session to what the seat's texts reach.
import Derived.Test.YtmpnaaegahjfkaaWInv
import Derived.Test.YtmpnaaegahjfkaaWFootNe
namespace Go.Proofs.YtmpnaaegahjfkaaW.PrintWords
open Go.RowKit
end Go.Proofs.YtmpnaaegahjfkaaW.PrintWords
namespace Go.Proofs.YtmpnaaegahjfkaaW.PrintLast
section
variable {ops : Array Oper} {a : Act} {o og : Oper} {g : Nat} {t : Tmp} {u : Bool}
end
end Go.Proofs.YtmpnaaegahjfkaaW.PrintLast
