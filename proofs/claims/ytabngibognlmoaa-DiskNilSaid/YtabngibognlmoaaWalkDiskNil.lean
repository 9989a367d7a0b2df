/- DiskNil's walk. -/
import Derived.Test.YtabngibognlmoaaDk2
namespace Go.Proofs.Ytabngibognlmoaa.Q
open Go.Maps Go.WideShapes Go.WideMaps Go.RowKit Go.Proofs.YtabngibognlmoaaW.PrintWords Go.Proofs.YtabngibognlmoaaW.PrintLast Go.Proofs.YtabngibognlmoaaW.PrintMore
set_option linter.unusedVariables false
set_option linter.unusedSimpArgs false
set_option maxHeartbeats 10000000
set_option maxRecDepth 100000
/-! DiskNil -/
theorem walkDiskNil (w : World) (s : ByteArray) (hs : s.size ≤ 140737488351232) (n : Int) (hn : (Lit.int .i64 n).wf = true) : Calls Try.prog 8 #[.string s, .int .i64 n] w fun e w' => e = .returned (.bool true) ∧ Below w.heap.size w w' := by
  go_enter Try.func8, Try.ntmps8
  go_wp2_with (fail)
  refine (nil_Fail w n n).mono ?_
  rintro e w1 ⟨rfl, hb⟩
  have B1 : Aside0 (Below w.heap.size w w1) := ⟨hb⟩
  clear hb
  go_wp2_with (fail)
  refine (nil_Plan _ _).mono ?_
  rintro e w2 ⟨rfl, hb⟩
  have B2 : Aside0 (Below w.heap.size w w2) := ⟨((B1.out.alloc B1.out.size _).trans (hb.mono (B1.out.alloc B1.out.size _).size))⟩
  clear hb
  go_wp2_with (fail)
  refine (nil_Room _ n).mono ?_
  rintro e w3 ⟨rfl, hb⟩
  have B3 : Aside0 (Below w.heap.size w w3) := ⟨B2.out.trans (hb.mono B2.out.size)⟩
  clear hb
  go_wp2_with (fail)
  refine (nil_Read _ s).mono ?_
  rintro e w4 ⟨rfl, hb⟩
  have B4 : Aside0 (Below w.heap.size w w4) := ⟨B3.out.trans (hb.mono B3.out.size)⟩
  clear hb
  go_wp2_with (fail)
  refine (awake_calls _).mono ?_
  rintro e w5 ⟨rfl, hb⟩
  have B5 : Aside0 (Below w.heap.size w w5) := ⟨B4.out.trans (hb.mono B4.out.size)⟩
  clear hb
  go_wp2_with (fail)
  refine (name_calls s (by omega) _).mono ?_
  rintro e w6 ⟨rfl, hb⟩
  have B6 : Aside0 (Below w.heap.size w w6) := ⟨let ⟨m, hm⟩ := hb; hm ▸ pw_below_drewN B5.out m⟩
  clear hb
  go_wp2_with (fail)
  refine (name_ref_calls s (by omega) _).mono ?_
  rintro e w7 ⟨rfl, hb⟩
  have B7 : Aside0 (Below w.heap.size w w7) := ⟨B6.out.trans (hb.mono B6.out.size)⟩
  clear hb
  go_wp2_with (fail)
  refine (nil_Append _ s s).mono ?_
  rintro e w8 ⟨rfl, hb⟩
  have B8 : Aside0 (Below w.heap.size w w8) := ⟨B7.out.trans (hb.mono B7.out.size)⟩
  clear hb
  go_wp2_with (fail)
  refine (nil_Write _ s s).mono ?_
  rintro e w9 ⟨rfl, hb⟩
  have B9 : Aside0 (Below w.heap.size w w9) := ⟨B8.out.trans (hb.mono B8.out.size)⟩
  clear hb
  go_wp2_with (fail)
  refine (nil_Move _ s s).mono ?_
  rintro e w10 ⟨rfl, hb⟩
  have B10 : Aside0 (Below w.heap.size w w10) := ⟨B9.out.trans (hb.mono B9.out.size)⟩
  clear hb
  go_wp2_with (fail)
  refine (nil_Remove _ s).mono ?_
  rintro e w11 ⟨rfl, hb⟩
  have B11 : Aside0 (Below w.heap.size w w11) := ⟨B10.out.trans (hb.mono B10.out.size)⟩
  clear hb
  go_wp2_with (fail)
  refine (nil_Cut _ s n).mono ?_
  rintro e w12 ⟨rfl, hb⟩
  have B12 : Aside0 (Below w.heap.size w w12) := ⟨B11.out.trans (hb.mono B11.out.size)⟩
  clear hb
  go_wp2_with (fail)
  refine (nil_Sync _).mono ?_
  rintro e w13 ⟨rfl, hb⟩
  have B13 : Aside0 (Below w.heap.size w w13) := ⟨B12.out.trans (hb.mono B12.out.size)⟩
  clear hb
  go_wp2_with (fail)
  refine (nil_Down _).mono ?_
  rintro e w14 ⟨rfl, hb⟩
  have B14 : Aside0 (Below w.heap.size w w14) := ⟨B13.out.trans (hb.mono B13.out.size)⟩
  clear hb
  go_wp2_with (fail)
  refine (nil_Up _).mono ?_
  rintro e w15 ⟨rfl, hb⟩
  have B15 : Aside0 (Below w.heap.size w w15) := ⟨B14.out.trans (hb.mono B14.out.size)⟩
  clear hb
  go_wp2_with (fail)
  refine (nil_Names _).mono ?_
  rintro e w16 ⟨rfl, hb⟩
  have B16 : Aside0 (Below w.heap.size w w16) := ⟨B15.out.trans (hb.mono B15.out.size)⟩
  clear hb
  go_wp2_with (fail)
  refine (nil_Used _).mono ?_
  rintro e w17 ⟨rfl, hb⟩
  have B17 : Aside0 (Below w.heap.size w w17) := ⟨B16.out.trans (hb.mono B16.out.size)⟩
  clear hb
  go_wp2_with (fail)
  refine (nil_Changes _).mono ?_
  rintro e w18 ⟨rfl, hb⟩
  have B18 : Aside0 (Below w.heap.size w w18) := ⟨B17.out.trans (hb.mono B17.out.size)⟩
  clear hb
  go_wp2_with (fail)
  refine (nil_Waits _).mono ?_
  rintro e w19 ⟨rfl, hb⟩
  have B19 : Aside0 (Below w.heap.size w w19) := ⟨B18.out.trans (hb.mono B18.out.size)⟩
  clear hb
  go_wp2_with (fail)
  refine (nil_Clone _).mono ?_
  rintro e w20 ⟨rfl, hb⟩
  have B20 : Aside0 (Below w.heap.size w w20) := ⟨B19.out.trans (hb.mono B19.out.size)⟩
  clear hb
  go_wp2
  go_ret
  exact ⟨rfl, B20.out⟩
end Go.Proofs.Ytabngibognlmoaa.Q
