/- DigestBack answers true at every input of bulk at most 1048576: what is told in digits is read again, and in one way alone. -/
import Derived.Test.YtibhbamckebggaaDoorDigits
import Derived.Test.YtibhbamckebggaaDoorQx3
import Derived.Test.YtibhbamckebggaaDoorQx4
import Derived.Test.YtibhbamckebggaaDoorQx5
import Derived.Test.YtibhbamckebggaaDoorStepEq
import Derived.Deep.RegionHeld3
import Derived.Deep.DrawnRows
import Derived.Deep.MidRow
import Derived.Lib.LaidTab
import Derived.Laws.Closers25b
namespace Go.Proofs.YtibhbamckebggaaDoor.Q
open Go.RowKit Go.Proofs.YtibhbamckebggaaDoorW.PrintWords Go.Proofs.YtibhbamckebggaaDoorW.PrintLast Go.Proofs.YtibhbamckebggaaDoorW.PrintMore
set_option linter.unusedVariables false
set_option linter.unusedSimpArgs false
set_option maxHeartbeats 1000000
set_option maxRecDepth 10000
theorem stowagelaw03_DigestBack.calls (s t : ByteArray) (w : World) (hG : InG w) (hs : s.size ≤ 1048576) (ht : t.size ≤ 1048576) :
    Calls Tryd.prog 8 #[.string s, .string t] w fun e w' => e = .returned (.bool true) ∧ Below w.heap.size w w' := by
  have HG := Aside0.mk hG
  have HS := Aside0.mk hs
  have HT := Aside0.mk ht
  clear hG hs ht
  go_enter Tryd.func8, Tryd.ntmps8
  go_wp2_with (fail)
  refine (digest_Hex.calls s w (by have := HS.out; omega)).mono ?_
  rintro e0 w0 ⟨rfl, hb⟩
  have B0 := Aside0.mk hb
  clear hb
  go_wp2_with (fail)
  refine (digest_Unhex.calls (hexF s) w0 (by rw [hex_size]; have := HS.out; omega)).mono ?_
  rw [unhex_hex]
  rintro e1 w1 ⟨rfl, hb⟩
  have B1 : Aside0 (Below w.heap.size w w1) := ⟨below_step B0.out hb⟩
  clear hb B0
  go_wp2_with (fail)
  by_cases hok : okHex t
  · obtain ⟨b, hb0⟩ : ∃ b : ByteArray, unhexF t = (b, 0) := ⟨_, unhex_ok hok⟩
    have hbt : hexF b = t := by have := hex_unhex hok; rw [hb0] at this; exact this
    have hbs : b.size ≤ 70000000000000 := by have := hex_size b; rw [hbt] at this; have := HT.out; omega
    have HB0 := Aside0.mk hb0
    have HBT := Aside0.mk hbt
    have HBS := Aside0.mk hbs
    clear hok hb0 hbt hbs
    refine (digest_Unhex.calls t w1 (by have := HT.out; omega)).mono ?_
    rw [HB0.out]
    rintro e2 w2 ⟨rfl, hb⟩
    have B2 : Aside0 (Below w.heap.size w w2) := ⟨below_step B1.out hb⟩
    clear hb B1
    go_wp2_with (fail)
    refine (stowagelaw03_awake.calls w2 (HG.out.below B2.out)).mono ?_
    rintro e3 w3 ⟨rfl, hb⟩
    have B3 : Aside0 (Below w.heap.size w w3) := ⟨below_step B2.out hb⟩
    clear hb B2
    go_wp2_with (fail)
    refine (digest_Hex.calls b w3 HBS.out).mono ?_
    rw [HBT.out]
    rintro e4 w4 ⟨rfl, hb⟩
    have B4 : Aside0 (Below w.heap.size w w4) := ⟨below_step B3.out hb⟩
    clear hb B3
    go_wp2
    go_ret
    exact ⟨by first | rfl | simp, B4.out⟩
  · have HB0 := Aside0.mk (unhex_bad hok)
    clear hok
    refine (digest_Unhex.calls t w1 (by have := HT.out; omega)).mono ?_
    rw [HB0.out]
    rintro e2 w2 ⟨rfl, hb⟩
    have B2 : Aside0 (Below w.heap.size w w2) := ⟨below_step B1.out hb⟩
    clear hb B1
    go_wp2_with (fail)
    refine (stowagelaw03_awake.calls w2 (HG.out.below B2.out)).mono ?_
    rintro e3 w3 ⟨rfl, hb⟩
    have B3 : Aside0 (Below w.heap.size w w3) := ⟨below_step B2.out hb⟩
    clear hb B2
    go_wp2
    go_ret
    exact ⟨by first | rfl | simp, B3.out⟩
end Go.Proofs.YtibhbamckebggaaDoor.Q
namespace Go.Proofs.YtibhbamckebggaaDoor.Walks
open Go.RowKit Go.Proofs.YtibhbamckebggaaDoor.Q Go.Proofs.YtibhbamckebggaaDoorW.PrintWords Go.Proofs.YtibhbamckebggaaDoorW.PrintLast Go.Proofs.YtibhbamckebggaaDoorW.PrintMore
set_option linter.unusedVariables false
theorem DigestBack (W : World) (hG : Q.InG W) (a0 : ByteArray) (g0 : a0.size ≤ 140737488351232) (a1 : ByteArray) (g1 : a1.size ≤ 140737488351232) (hb : (a0.size + 1) + (a1.size + 1) ≤ 1048576) :
    Calls Tryd.prog 8 #[.string a0, .string a1] W fun e w' => e = .returned (.bool true) ∧ Below W.heap.size W w' := stowagelaw03_DigestBack.calls a0 a1 W hG (by omega) (by omega)
end Go.Proofs.YtibhbamckebggaaDoor.Walks
