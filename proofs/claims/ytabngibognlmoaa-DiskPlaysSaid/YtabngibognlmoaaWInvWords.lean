-- The words of the kit's print (OWN=1), cut by a program of this session to what the seat's texts reach.
import Derived.Test.YtabngibognlmoaaWInv
import Derived.Test.YtabngibognlmoaaWFootNe
namespace Go.Proofs.YtabngibognlmoaaW.PrintWords
open Go.RowKit
end Go.Proofs.YtabngibognlmoaaW.PrintWords
namespace Go.Proofs.YtabngibognlmoaaW.PrintLast
section
variable {ops : Array Oper} {a : Act} {o og : Oper} {g : Nat} {t : Tmp} {u : Bool}
end
end Go.Proofs.YtabngibognlmoaaW.PrintLast
