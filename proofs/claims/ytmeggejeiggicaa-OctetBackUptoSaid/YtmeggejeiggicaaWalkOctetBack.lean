/- OctetBack answers true at every input of bulk at most 1048576: what was put is taken again, wherever it stands, whatever stands behind it. -/
import Derived.Test.YtmeggejeiggicaaSpec2
namespace Go.Proofs.Ytmeggejeiggicaa.Walks
open Go.RowKit Go.Proofs.Ytmeggejeiggicaa.Q Go.Proofs.YtmeggejeiggicaaW.PrintWords Go.Proofs.YtmeggejeiggicaaW.PrintLast Go.Proofs.YtmeggejeiggicaaW.PrintMore
set_option linter.unusedVariables false
theorem OctetBack (W : World) (a0 : Int) (g0 : (Lit.int .u64 a0).wf = true) (A1 : Option Addr) (c1 : Nat) (a1 : List ByteArray) (l1 : a1.length ≤ c1) (C1 : Kd.C Kd.string W A1 a1.length a1) (g1 : a1.length * 16 ≤ 140737488351232 ∧ ∀ s ∈ a1, s.size ≤ 140737488351232) (cs2 : Array Value) (a2 : (ByteArray × ByteArray)) (K2 : (Kd.pair Kd.string Kd.string).K W a2 cs2.toList) (g2 : a2.1.size ≤ 140737488351232 ∧ a2.2.size ≤ 140737488351232)
    (hb : (a1.map fun s => s.size + 1).sum + 1 + (a2.1.size + 1 + (a2.2.size + 1) + 1) ≤ 1048576) :
    Calls Try.prog 6 #[.int .u64 a0, .slice A1 a1.length c1, .agg cs2] W fun e w' => e = .returned (.bool true) ∧ Below W.heap.size W w' := by
  obtain ⟨c0', c1', hc, h0, h1⟩ := K2
  obtain rfl : c0' = [.string a2.1] := h0
  obtain rfl : c1' = [.string a2.2] := h1
  obtain rfl : cs2 = #[.string a2.1, .string a2.2] := by apply Array.toList_inj.1; simpa using hc
  have h0' : 0 ≤ a0 ∧ a0 < 2 ^ 64 := by
    simp [Lit.wf, IntKind.min, IntKind.max, IntKind.signed, IntKind.bits] at g0; omega
  obtain ⟨n, rfl⟩ := Int.eq_ofNat_of_zero_le h0'.1
  have hb' : Pure.total a1 + 1 + (a2.1.size + 1 + (a2.2.size + 1) + 1) ≤ 1048576 := hb
  refine (stowagelaw01_OctetBack.calls 3000001 n A1 c1 a1 a2.1 a2.2 true W C1 l1 (Pure.OctetBack n (by omega) a1 (by omega) a2.1 a2.2 (by omega) (by omega) _ (by omega))).mono ?_
  rintro e w' ⟨rfl, hd⟩
  exact ⟨rfl, hd⟩

end Go.Proofs.Ytmeggejeiggicaa.Walks
