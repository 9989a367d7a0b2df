/- Every text's sum is the reference's; without further conditions. -/
import Derived.Test.YtdedhifmpmbojaaSpec
namespace Go.Proofs.Ytdedhifmpmbojaa.Pure
open Go.RowKit Go.Proofs.Ytdedhifmpmbojaa.Q Go.Proofs.YtdedhifmpmbojaaW.PrintWords Go.Proofs.YtdedhifmpmbojaaW.PrintLast Go.Proofs.YtdedhifmpmbojaaW.PrintMore
set_option linter.unusedVariables false
theorem FrameSums : stowagelaw02_FrameSums.Pure := by
  intro a0 h0
  refine ⟨10 * a0.size + 1000, ?_⟩
  unfold stowagelaw02_FrameSums.f
  rw [awake_true _ (by omega), oct_sum a0 h0 _ (by omega), ref_sum a0 h0 _ (by omega)]
  simp

end Go.Proofs.Ytdedhifmpmbojaa.Pure
