/- What is framed is found, wherever it stands: of the plain functions that the calls come to; for texts up to 2^47 bytes around it. -/
import Derived.Test.YtdedhifmpmbojaaSpec2
namespace Go.Proofs.Ytdedhifmpmbojaa.Pure
open Go.RowKit Go.Proofs.Ytdedhifmpmbojaa.Q Go.Proofs.YtdedhifmpmbojaaW.PrintWords Go.Proofs.YtdedhifmpmbojaaW.PrintLast Go.Proofs.YtdedhifmpmbojaaW.PrintMore
set_option linter.unusedVariables false
theorem FrameBack (b x y : ByteArray) (hx : x.size ≤ 140737488351232) (hy : y.size ≤ 140737488351232) (k : Nat) (hk : 10 * (x.size + y.size) + 4000000 < k) : stowagelaw02_FrameBack.f k b x y = some true := by
  unfold stowagelaw02_FrameBack.f
  rw [oct_frame b _ (by omega)]
  simp only [Option.bind_some]
  by_cases h : 262144 < b.size
  · rw [if_pos h]
    simp only
    rw [if_neg (by decide), awake_true _ (by omega)]
    simp only [Option.bind_some, if_true]
    rw [if_pos (show (⟨#[]⟩ : ByteArray).toList = [] by decide +kernel), decide_eq_true (show (b.size : Int) > 262144 by omega)]
  · rw [if_neg h]
    have hz := frameS_size b
    have hs : (x ++ frameS b).size = x.size + (8 + b.size) := by rw [ByteArray.size_append, hz]
    have hs2 : ((x ++ frameS b) ++ y).size = x.size + (8 + b.size) + y.size := by rw [ByteArray.size_append, hs]
    simp only [if_true]
    rw [if_pos (by omega), if_pos (by omega), oct_unframe _ (by omega) _ _ (by omega)]
    simp only [Option.bind_some]
    have e : unframe ((x ++ frameS b) ++ y) (x.size : Int) = (b, ((x.size + (8 + b.size) : Nat) : Int), 0) := by
      unfold unframe
      rw [if_neg (by omega), Int.toNat_natCast]
      refine unframe_frame _ b x.size (nb y) (by omega) (by omega) ?_
      rw [nb_app, nb_app, nb_frameS, List.append_assoc, List.drop_append_of_le_length (by rw [nb_len]; exact Nat.le_refl _), List.drop_of_length_le (by rw [nb_len]; exact Nat.le_refl _), List.nil_append]
    rw [e, awake_true _ (by omega)]
    simp only [Option.bind_some, if_true]
    rw [IntWalk.wrap64_in _ (by omega), hz]
    simp

end Go.Proofs.Ytdedhifmpmbojaa.Pure
