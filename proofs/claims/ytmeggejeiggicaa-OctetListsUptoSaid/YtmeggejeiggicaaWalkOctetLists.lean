/- OctetLists answers true at every input of bulk at most 1048576: each list's bytes, and each list that stands anywhere in any bytes, are the reference's. -/
import Derived.Test.YtmeggejeiggicaaSpec2
namespace Go.Proofs.Ytmeggejeiggicaa.Walks
open Go.RowKit Go.Proofs.Ytmeggejeiggicaa.Q Go.Proofs.YtmeggejeiggicaaW.PrintWords Go.Proofs.YtmeggejeiggicaaW.PrintLast Go.Proofs.YtmeggejeiggicaaW.PrintMore
set_option linter.unusedVariables false
theorem OctetLists (W : World) (A0 : Option Addr) (c0 : Nat) (a0 : List ByteArray) (l0 : a0.length ≤ c0) (C0 : Kd.C Kd.string W A0 a0.length a0) (g0 : a0.length * 16 ≤ 140737488351232 ∧ ∀ s ∈ a0, s.size ≤ 140737488351232) (a1 : ByteArray) (g1 : a1.size ≤ 140737488351232) (a2 : Int) (g2 : (Lit.int .i64 a2).wf = true)
    (hb : (a0.map fun s => s.size + 1).sum + 1 + (a1.size + 1) ≤ 1048576) :
    Calls Try.prog 5 #[.slice A0 a0.length c0, .string a1, .int .i64 a2] W fun e w' => e = .returned (.bool true) ∧ Below W.heap.size W w' := by
  have hb' : Pure.total a0 + 1 + (a1.size + 1) ≤ 1048576 := hb
  refine (stowagelaw01_OctetLists.calls 3000001 A0 c0 a0 a1 a2 true W C0 l0 (Pure.OctetLists a0 (by omega) a1 (by omega) a2 _ (by omega))).mono ?_
  rintro e w' ⟨rfl, hd⟩
  exact ⟨rfl, hd⟩

end Go.Proofs.Ytmeggejeiggicaa.Walks
