/- The frames that are found in bytes are the reference's: of the plain functions that the calls come to; for bytes up to 1048576. -/
import Derived.Test.YtdedhifmpmbojaaSpec2
namespace Go.Proofs.Ytdedhifmpmbojaa.Pure
open Go.RowKit Go.Proofs.Ytdedhifmpmbojaa.Q Go.Proofs.YtdedhifmpmbojaaW.PrintWords Go.Proofs.YtdedhifmpmbojaaW.PrintLast Go.Proofs.YtdedhifmpmbojaaW.PrintMore
set_option linter.unusedVariables false
theorem unframe_ok (s : ByteArray) (p : Nat) (h : (unframeN s p).2.2 = 0) : ∃ q : Nat, (unframeN s p).2.1 = q ∧ p + 8 ≤ q ∧ q ≤ s.size := by
  unfold unframeN at h ⊢
  by_cases h1 : s.size - p < 4
  · rw [if_pos h1] at h; simp at h
  · rw [if_neg h1] at h ⊢
    by_cases h2 : 262144 < rwide s p 4
    · rw [if_pos h2] at h; simp at h
    · rw [if_neg h2] at h ⊢
      by_cases h3 : s.size - (p + 4) < 4 + rwide s p 4
      · rw [if_pos h3] at h; simp at h
      · rw [if_neg h3] at h ⊢
        by_cases h4 : rwide s (p + 4) 4 = sumOf (nb (s.extract p (p + 4) ++ s.extract (p + 8) (p + 8 + rwide s p 4)))
        · rw [if_pos h4]
          exact ⟨p + 8 + rwide s p 4, rfl, by omega, by omega⟩
        · rw [if_neg h4] at h; simp at h
theorem both_frames (s : ByteArray) (hs : s.size ≤ 1048576) : ∀ (d p : Nat) (done : List ByteArray), s.size - p < d → p ≤ s.size → done.length ≤ p → ∃ r : List ByteArray × Int, r.1.length ≤ s.size ∧ ∀ k, d + 20000000 < k → frame_Frames.l0 k s done p = some r ∧ stowageref02_Frames.l0 k s done p = some r := by
  intro d
  induction d with
  | zero => intro p done h; omega
  | succ d ih =>
    intro p done hd hp hl
    by_cases hlt : p < s.size
    · have e : unframe s (p : Int) = unframeN s p := by
        unfold unframe
        rw [if_neg (by omega), Int.toNat_natCast]
      by_cases h0 : (unframeN s p).2.2 = 0
      · obtain ⟨q, hq, hq1, hq2⟩ := unframe_ok s p h0
        obtain ⟨r, hr1, hr⟩ := ih q (done ++ [(unframeN s p).1]) (by omega) hq2 (by simp; omega)
        refine ⟨r, hr1, fun k hk => ?_⟩
        obtain ⟨k, rfl⟩ : ∃ m, k = m + 1 := ⟨k - 1, by omega⟩
        simp only [frame_Frames.l0, stowageref02_Frames.l0]
        rw [if_pos (by omega), if_pos (by omega), oct_unframe s (by omega) _ k (by omega), ref_unframe s (by omega) _ k (by omega)]
        simp only [Option.bind_some]
        rw [e, if_pos h0, if_pos h0, if_pos (by omega), if_pos (by omega), hq]
        exact hr k (by omega)
      · refine ⟨(done, (p : Int)), by show done.length ≤ _; omega, fun k hk => ?_⟩
        obtain ⟨k, rfl⟩ : ∃ m, k = m + 1 := ⟨k - 1, by omega⟩
        simp only [frame_Frames.l0, stowageref02_Frames.l0]
        rw [if_pos (by omega), if_pos (by omega), oct_unframe s (by omega) _ k (by omega), ref_unframe s (by omega) _ k (by omega)]
        simp only [Option.bind_some]
        rw [e, if_neg h0, if_neg h0]
        exact ⟨rfl, rfl⟩
    · refine ⟨(done, (p : Int)), by show done.length ≤ _; omega, fun k hk => ?_⟩
      obtain ⟨k, rfl⟩ : ∃ m, k = m + 1 := ⟨k - 1, by omega⟩
      simp only [frame_Frames.l0, stowageref02_Frames.l0]
      rw [if_neg (by omega), if_neg (by omega)]
      exact ⟨rfl, rfl⟩
theorem FrameReads (s : ByteArray) (hs : s.size ≤ 1048576) (a : Int) : stowagelaw02_FrameReads.f 40000000 s a = some true := by
  obtain ⟨r, hr1, hr⟩ := both_frames s hs (s.size + 1) 0 [] (by omega) (by omega) (by simp)
  obtain ⟨h1, h2⟩ := hr 40000000 (by omega)
  unfold stowagelaw02_FrameReads.f frame_Frames.f stowageref02_Frames.f
  rw [oct_unframe s (by omega) a _ (by omega), ref_unframe s (by omega) a _ (by omega)]
  simp only [Option.bind_some]
  rw [show (0 : Int) = ((0 : Nat) : Int) from rfl, h1, h2, awake_true _ (by omega)]
  simp only [Option.bind_some, if_true]
  rw [same_self r.1 (by omega) _ (by omega)]
  simp

end Go.Proofs.Ytdedhifmpmbojaa.Pure
