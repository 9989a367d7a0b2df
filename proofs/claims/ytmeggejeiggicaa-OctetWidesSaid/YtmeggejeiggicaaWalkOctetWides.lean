/- OctetWides answers true at every input: each number in so many bytes, and each that stands anywhere in any bytes, are the reference's. -/
import Derived.Test.YtmeggejeiggicaaSpec3
import Derived.Test.YtmeggejeiggicaaKindsOctetWides
namespace Go.Proofs.Ytmeggejeiggicaa.Walks
open Go.RowKit Go.Proofs.Ytmeggejeiggicaa.Q Go.Proofs.YtmeggejeiggicaaW.PrintWords Go.Proofs.YtmeggejeiggicaaW.PrintLast Go.Proofs.YtmeggejeiggicaaW.PrintMore
set_option linter.unusedVariables false
theorem OctetWides (W : World) (a0 : Int) (g0 : (Lit.int .u64 a0).wf = true) (a1 : Int) (g1 : (Lit.int .i64 a1).wf = true) (cs2 : Array Value) (a2 : K.S49) (K2 : K.k49.K W a2 cs2.toList) (g2 : a2.f0.size ≤ 140737488351232 ∧ (Lit.int .i64 a2.f1).wf = true ∧ (Lit.int .i64 a2.f2).wf = true) :
    Calls Try.prog 8 #[.int .u64 a0, .int .i64 a1, .agg cs2] W fun e w' => e = .returned (.bool true) ∧ Below W.heap.size W w' := by
  have hc := K.k49_open K2
  obtain rfl : cs2 = #[.string a2.f0, .int .i64 a2.f1, .int .i64 a2.f2] := by apply Array.toList_inj.1; simpa using hc
  have h0' : 0 ≤ a0 ∧ a0 < 2 ^ 64 := by
    simp [Lit.wf, IntKind.min, IntKind.max, IntKind.signed, IntKind.bits] at g0; omega
  obtain ⟨n, rfl⟩ := Int.eq_ofNat_of_zero_le h0'.1
  have hf : stowagelaw01_OctetWides.f 30 n a1 a2.f0 a2.f1 a2.f2 = some true := by
    unfold stowagelaw01_OctetWides.f
    rw [Pure.oct_wide n (by omega) a1 30 (by omega), Pure.ref_wide n (by omega) a1 30 (by omega), Pure.oct_rwide _ (by omega) _ _ 30 (by omega), Pure.ref_rwide _ (by omega) _ _ 30 (by omega), Pure.awake_true 30 (by omega)]
    simp
  refine (stowagelaw01_OctetWides.calls 30 n a1 a2.f0 a2.f1 a2.f2 true W hf).mono ?_
  rintro e w' ⟨rfl, hd⟩
  exact ⟨rfl, hd⟩

end Go.Proofs.Ytmeggejeiggicaa.Walks
