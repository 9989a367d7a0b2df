-- The words of the kit's print (OWN=1), cut by a program of this session to what the seat's texts reach.
import Derived.Test.YtdeakccaecphlaaDoorWWords
import Derived.Laws.StructEq
namespace Go.Proofs.YtdeakccaecphlaaDoorW.PrintWords
open Go.RowKit
section
variable {P : Program} {d : Nat} {xs ys : Array Value} {f : Field} {fs : List Field} {a b : Value} {r s : Bool} {w : World}
end
end Go.Proofs.YtdeakccaecphlaaDoorW.PrintWords
