/- FrameReads answers true at every input of bulk at most 1048576: the frame that stands anywhere in any bytes, and all frames from the front on, are the reference's. -/
import Derived.Test.YtdedhifmpmbojaaSpec3
namespace Go.Proofs.Ytdedhifmpmbojaa.Walks
open Go.RowKit Go.Proofs.Ytdedhifmpmbojaa.Q Go.Proofs.YtdedhifmpmbojaaW.PrintWords Go.Proofs.YtdedhifmpmbojaaW.PrintLast Go.Proofs.YtdedhifmpmbojaaW.PrintMore
set_option linter.unusedVariables false
theorem FrameReads (W : World) (a0 : ByteArray) (g0 : a0.size ≤ 140737488351232) (a1 : Int) (g1 : (Lit.int .i64 a1).wf = true) (hb : a0.size + 1 ≤ 1048576) :
    Calls Try.prog 7 #[.string a0, .int .i64 a1] W fun e w' => e = .returned (.bool true) ∧ Below W.heap.size W w' := by
  refine (stowagelaw02_FrameReads.calls 40000000 a0 a1 true W (Pure.FrameReads a0 (by omega) a1)).mono ?_
  rintro e w' ⟨rfl, hd⟩
  exact ⟨rfl, hd⟩

end Go.Proofs.Ytdedhifmpmbojaa.Walks
