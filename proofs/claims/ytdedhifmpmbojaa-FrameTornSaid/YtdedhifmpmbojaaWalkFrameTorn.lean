/- FrameTorn answers true at every input: a frame that ends early is none, and frames ahead of it are found. -/
import Derived.Test.YtdedhifmpmbojaaSpec2
namespace Go.Proofs.Ytdedhifmpmbojaa.Walks
open Go.RowKit Go.Proofs.Ytdedhifmpmbojaa.Q Go.Proofs.YtdedhifmpmbojaaW.PrintWords Go.Proofs.YtdedhifmpmbojaaW.PrintLast Go.Proofs.YtdedhifmpmbojaaW.PrintMore
set_option linter.unusedVariables false
theorem FrameTorn (W : World) (A0 : Option Addr) (c0 : Nat) (a0 : List ByteArray) (l0 : a0.length ≤ c0) (C0 : Kd.C Kd.string W A0 a0.length a0) (g0 : a0.length * 16 ≤ 140737488351232 ∧ ∀ s ∈ a0, s.size ≤ 140737488351232) (a1 : ByteArray) (g1 : a1.size ≤ 140737488351232) (a2 : Int) (g2 : (Lit.int .i64 a2).wf = true) :
    Calls Try.prog 8 #[.slice A0 a0.length c0, .string a1, .int .i64 a2] W fun e w' => e = .returned (.bool true) ∧ Below W.heap.size W w' := by
  have hc : -9223372036854775808 ≤ a2 ∧ a2 ≤ 9223372036854775807 := by
    simp [Lit.wf, IntKind.min, IntKind.max, IntKind.signed, IntKind.bits] at g2; omega
  refine (stowagelaw02_FrameTorn.calls 200000000 A0 c0 a0 a1 a2 true W C0 l0 (Pure.FrameTorn a0 (by omega) a1 a2 hc)).mono ?_
  rintro e w' ⟨rfl, hd⟩
  exact ⟨rfl, hd⟩

end Go.Proofs.Ytdedhifmpmbojaa.Walks
