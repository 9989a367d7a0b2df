/- FrameBack answers true at every input: what is framed is found, wherever it stands, whatever stands around it. -/
import Derived.Test.YtdedhifmpmbojaaSpec4
namespace Go.Proofs.Ytdedhifmpmbojaa.Walks
open Go.RowKit Go.Proofs.Ytdedhifmpmbojaa.Q Go.Proofs.YtdedhifmpmbojaaW.PrintWords Go.Proofs.YtdedhifmpmbojaaW.PrintLast Go.Proofs.YtdedhifmpmbojaaW.PrintMore
set_option linter.unusedVariables false
theorem FrameBack (W : World) (a0 : ByteArray) (g0 : a0.size ≤ 140737488351232) (cs1 : Array Value) (a1 : (ByteArray × ByteArray)) (K1 : (Kd.pair Kd.string Kd.string).K W a1 cs1.toList) (g1 : a1.1.size ≤ 140737488351232 ∧ a1.2.size ≤ 140737488351232) :
    Calls Try.prog 5 #[.string a0, .agg cs1] W fun e w' => e = .returned (.bool true) ∧ Below W.heap.size W w' := by
  obtain ⟨c0, c1, hc, h0, h1⟩ := K1
  obtain rfl : c0 = [.string a1.1] := h0
  obtain rfl : c1 = [.string a1.2] := h1
  obtain rfl : cs1 = #[.string a1.1, .string a1.2] := by apply Array.toList_inj.1; simpa using hc
  refine (stowagelaw02_FrameBack.calls _ a0 a1.1 a1.2 true W (Pure.FrameBack a0 a1.1 a1.2 g1.1 g1.2 _ (Nat.lt_succ_self _))).mono ?_
  rintro e w' ⟨rfl, hd⟩
  exact ⟨rfl, hd⟩

end Go.Proofs.Ytdedhifmpmbojaa.Walks
