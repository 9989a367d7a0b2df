/- DigestDigits answers true at every input of bulk at most 1048576: each text in digits, and what any digits say, or that they are none. -/
import Derived.Test.YtibhbamckebggaaDoorDigits
import Derived.Test.YtibhbamckebggaaDoorQx3
import Derived.Test.YtibhbamckebggaaDoorQx4
import Derived.Test.YtibhbamckebggaaDoorQx5
import Derived.Test.YtibhbamckebggaaDoorStepEq
import Derived.Deep.RegionHeld3
import Derived.Deep.DrawnRows
import Derived.Deep.MidRow
import Derived.Lib.LaidTab
import Derived.Laws.Closers25b
namespace Go.Proofs.YtibhbamckebggaaDoor.Q
open Go.RowKit Go.Proofs.YtibhbamckebggaaDoorW.PrintWords Go.Proofs.YtibhbamckebggaaDoorW.PrintLast Go.Proofs.YtibhbamckebggaaDoorW.PrintMore
set_option linter.unusedVariables false
set_option linter.unusedSimpArgs false
set_option maxHeartbeats 1000000
set_option maxRecDepth 10000
theorem stowagelaw03_DigestDigits.calls (s t : ByteArray) (w : World) (hG : InG w) (hs : s.size ≤ 1048576) (ht : t.size ≤ 1048576) :
    Calls Tryd.prog 7 #[.string s, .string t] w fun e w' => e = .returned (.bool true) ∧ Below w.heap.size w w' := by
  have HG := Aside0.mk hG
  have HS := Aside0.mk hs
  have HT := Aside0.mk ht
  clear hG hs ht
  obtain ⟨a, e, hae⟩ : ∃ (a : ByteArray) (e : Int), unhexF t = (a, e) := ⟨_, _, rfl⟩
  have HAE := Aside0.mk hae
  clear hae
  go_enter Tryd.func7, Tryd.ntmps7
  go_wp2_with (fail)
  refine (digest_Unhex.calls t w (by have := HT.out; omega)).mono ?_
  rw [HAE.out]
  rintro e1 w1 ⟨rfl, hb⟩
  have B1 := Aside0.mk hb
  clear hb
  go_wp2_with (fail)
  refine (stowageref03_Unhex.calls (5 * t.size + 3) t a e w1 (by rw [refUnhex_eq t (by have := HT.out; omega) _ (by omega), HAE.out])).mono ?_
  rintro e2 w2 ⟨rfl, hb⟩
  have B2 : Aside0 (Below w.heap.size w w2) := ⟨below_step B1.out hb⟩
  clear hb B1
  go_wp2_with (fail)
  refine (stowagelaw03_awake.calls w2 (HG.out.below B2.out)).mono ?_
  rintro e3 w3 ⟨rfl, hb⟩
  have B3 : Aside0 (Below w.heap.size w w3) := ⟨below_step B2.out hb⟩
  clear hb B2
  go_wp2_with (fail)
  refine (digest_Hex.calls s w3 (by have := HS.out; omega)).mono ?_
  rintro e4 w4 ⟨rfl, hb⟩
  have B4 : Aside0 (Below w.heap.size w w4) := ⟨below_step B3.out hb⟩
  clear hb B3
  go_wp2_with (fail)
  refine (stowageref03_Hex.calls (4 * s.size + 1) s (hexF s) w4 (refHex_eq s (by have := HS.out; omega) _ (by omega))).mono ?_
  rintro e5 w5 ⟨rfl, hb⟩
  have B5 : Aside0 (Below w.heap.size w w5) := ⟨below_step B4.out hb⟩
  clear hb B4
  go_wp2
  go_ret
  exact ⟨by first | rfl | simp, B5.out⟩
end Go.Proofs.YtibhbamckebggaaDoor.Q
namespace Go.Proofs.YtibhbamckebggaaDoor.Walks
open Go.RowKit Go.Proofs.YtibhbamckebggaaDoor.Q Go.Proofs.YtibhbamckebggaaDoorW.PrintWords Go.Proofs.YtibhbamckebggaaDoorW.PrintLast Go.Proofs.YtibhbamckebggaaDoorW.PrintMore
set_option linter.unusedVariables false
theorem DigestDigits (W : World) (hG : Q.InG W) (a0 : ByteArray) (g0 : a0.size ≤ 140737488351232) (a1 : ByteArray) (g1 : a1.size ≤ 140737488351232) (hb : (a0.size + 1) + (a1.size + 1) ≤ 1048576) :
    Calls Tryd.prog 7 #[.string a0, .string a1] W fun e w' => e = .returned (.bool true) ∧ Below W.heap.size W w' := stowagelaw03_DigestDigits.calls a0 a1 W hG (by omega) (by omega)
end Go.Proofs.YtibhbamckebggaaDoor.Walks
