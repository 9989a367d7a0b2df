/- DigestSums answers true at every input: each text's digest is SHA-256. -/
import Derived.Test.YtibhbamckebggaaDoorSha
import Derived.Test.YtibhbamckebggaaDoorStepEq
import Derived.Deep.RegionHeld3
import Derived.Deep.DrawnRows
import Derived.Deep.MidRow
import Derived.Lib.LaidTab
import Derived.Laws.Closers25b
namespace Go.Proofs.YtibhbamckebggaaDoor.Q
open Go.RowKit Go.Proofs.YtibhbamckebggaaDoorW.PrintWords Go.Proofs.YtibhbamckebggaaDoorW.PrintLast Go.Proofs.YtibhbamckebggaaDoorW.PrintMore
set_option linter.unusedVariables false
set_option linter.unusedSimpArgs false
set_option maxHeartbeats 1000000
set_option maxRecDepth 10000
theorem stowagelaw03_DigestSums.calls (t : ByteArray) (w : World) (hG : InG w) (hl : t.size ≤ 140737488351232) :
    Calls Tryd.prog 3 #[.string t] w fun e w' => e = .returned (.bool true) ∧ Below w.heap.size w w' := by
  have HG := Aside0.mk hG
  have HL := Aside0.mk hl
  clear hG hl
  go_enter Tryd.func3, Tryd.ntmps3
  go_wp2_with (fail)
  refine (stowagelaw03_awake.calls w HG.out).mono ?_
  rintro e w1 ⟨rfl, hb⟩
  have B1 := Aside0.mk hb
  clear hb
  go_wp2_with (fail)
  refine (digest_Sum.calls t w1 (HG.out.below B1.out) (by have := HL.out; omega)).mono ?_
  rintro e w2 ⟨rfl, hb⟩
  have B2 : Aside0 (Below w.heap.size w w2) := ⟨below_step B1.out hb⟩
  clear hb B1
  go_wp2_with (fail)
  refine (stowageref03_Sum.calls 200 t (sha t) w2 (refsum_eq 200 (by decide) t HL.out)).mono ?_
  rintro e w3 ⟨rfl, hb⟩
  have B3 : Aside0 (Below w.heap.size w w3) := ⟨below_step B2.out hb⟩
  clear hb B2
  go_wp2
  go_ret
  exact ⟨by first | rfl | simp, B3.out⟩
end Go.Proofs.YtibhbamckebggaaDoor.Q
namespace Go.Proofs.YtibhbamckebggaaDoor.Walks
open Go.RowKit Go.Proofs.YtibhbamckebggaaDoor.Q Go.Proofs.YtibhbamckebggaaDoorW.PrintWords Go.Proofs.YtibhbamckebggaaDoorW.PrintLast Go.Proofs.YtibhbamckebggaaDoorW.PrintMore
set_option linter.unusedVariables false
theorem DigestSums (W : World) (hG : Q.InG W) (a0 : ByteArray) (g0 : a0.size ≤ 140737488351232) : Calls Tryd.prog 3 #[.string a0] W fun e w' => e = .returned (.bool true) ∧ Below W.heap.size W w' := stowagelaw03_DigestSums.calls a0 W hG g0
end Go.Proofs.YtibhbamckebggaaDoor.Walks
