-- The words of the kit's print (OWN=1), cut by a program of this session to what the seat's texts reach.
import Derived.Test.YthjfofgcikfepaaWInv
import Derived.Test.YthjfofgcikfepaaWFootNe
namespace Go.Proofs.YthjfofgcikfepaaW.PrintWords
open Go.RowKit
end Go.Proofs.YthjfofgcikfepaaW.PrintWords
namespace Go.Proofs.YthjfofgcikfepaaW.PrintLast
section
variable {ops : Array Oper} {a : Act} {o og : Oper} {g : Nat} {t : Tmp} {u : Bool}
end
end Go.Proofs.YthjfofgcikfepaaW.PrintLast
