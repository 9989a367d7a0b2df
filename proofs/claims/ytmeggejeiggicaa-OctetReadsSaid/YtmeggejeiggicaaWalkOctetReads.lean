/- OctetReads answers true at every input: a reader goes over any bytes in any way, and keeps the first error that it meets; one that is nil answers zeros. -/
import Derived.Test.YtmeggejeiggicaaSpec5
namespace Go.Proofs.Ytmeggejeiggicaa.Walks
open Go.RowKit Go.Proofs.Ytmeggejeiggicaa.R Go.Proofs.YtmeggejeiggicaaW.PrintWords Go.Proofs.YtmeggejeiggicaaW.PrintLast Go.Proofs.YtmeggejeiggicaaW.PrintMore
set_option linter.unusedVariables false
theorem OctetReads (W : World) (a0 : ByteArray) (g0 : a0.size ≤ 140737488351232) (A1 : Option Addr) (c1 : Nat) (a1 : (List S63)) (l1 : a1.length ≤ c1) (C1 : Kd.C k63 W A1 a1.length a1) (g1 : (a1.length * 16 ≤ 140737488351232 ∧ ∀ y0 ∈ a1, ((Lit.int .i64 y0.f0).wf = true ∧ (Lit.int .i64 y0.f1).wf = true))) :
    Calls Try.prog 9 #[.string a0, .slice A1 a1.length c1] W fun e w' => e = .returned (.bool true) ∧ Below W.heap.size W w' := by
  refine (stowagelaw01_OctetReads.calls (2 * a1.length + 60) a0 A1 c1 a1 true W C1 l1 (Pure.OctetReads a0 g0 a1 (by omega))).mono ?_
  rintro e w' ⟨rfl, hd⟩
  exact ⟨rfl, hd⟩

end Go.Proofs.Ytmeggejeiggicaa.Walks
