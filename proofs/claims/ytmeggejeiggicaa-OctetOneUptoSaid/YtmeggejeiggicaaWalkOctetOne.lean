/- OctetOne answers true at every input of bulk at most 1048576: bytes that are taken as a number, a text or a list are just those that are put for it. -/
import Derived.Test.YtmeggejeiggicaaSpec4
namespace Go.Proofs.Ytmeggejeiggicaa.Walks
open Go.RowKit Go.Proofs.Ytmeggejeiggicaa.Q Go.Proofs.YtmeggejeiggicaaW.PrintWords Go.Proofs.YtmeggejeiggicaaW.PrintLast Go.Proofs.YtmeggejeiggicaaW.PrintMore
set_option linter.unusedVariables false
theorem OctetOne (W : World) (a0 : ByteArray) (g0 : a0.size ≤ 140737488351232) (hb : a0.size + 1 ≤ 1048576) :
    Calls Try.prog 7 #[.string a0] W fun e w' => e = .returned (.bool true) ∧ Below W.heap.size W w' := by
  refine (stowagelaw01_OctetOne.calls 3000001 a0 true W (Pure.OctetOne a0 (by omega) _ (by omega))).mono ?_
  rintro e w' ⟨rfl, hd⟩
  exact ⟨rfl, hd⟩

end Go.Proofs.Ytmeggejeiggicaa.Walks
