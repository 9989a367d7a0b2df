/- WiresFull answers true at every input: so many packets may be under way and no more; one that is taken makes room. -/
import Derived.Test.YtodkackgdchocaaTr
namespace Go.Proofs.Ytodkackgdchocaa.Walks
open Go.RowKit Go.Proofs.Ytodkackgdchocaa.Q Go.Proofs.YtodkackgdchocaaW.PrintWords Go.Proofs.YtodkackgdchocaaW.PrintLast Go.Proofs.YtodkackgdchocaaW.PrintMore
set_option linter.unusedVariables false
theorem WiresFull (W : World) (a0 : Int) (g0 : (Lit.int .i64 a0).wf = true) (a1 : Int) (g1 : (Lit.int .i64 a1).wf = true) :
    Calls Try.prog 3 #[.int .i64 a0, .int .i64 a1] W fun e w' => e = .returned (.bool true) ∧ Below W.heap.size W w' := stowagelaw08_WiresFull.calls a0 a1 W
end Go.Proofs.Ytodkackgdchocaa.Walks
