-- The words of the kit's print (OWN=1), cut by a program of this session to what the seat's texts reach.
import Derived.Test.YtdeakccaecphlaaDoorWInv
import Derived.Test.YtdeakccaecphlaaDoorWFootNe
namespace Go.Proofs.YtdeakccaecphlaaDoorW.PrintWords
open Go.RowKit
end Go.Proofs.YtdeakccaecphlaaDoorW.PrintWords
namespace Go.Proofs.YtdeakccaecphlaaDoorW.PrintLast
section
variable {ops : Array Oper} {a : Act} {o og : Oper} {g : Nat} {t : Tmp} {u : Bool}
end
end Go.Proofs.YtdeakccaecphlaaDoorW.PrintLast
