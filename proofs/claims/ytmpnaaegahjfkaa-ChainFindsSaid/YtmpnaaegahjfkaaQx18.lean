

/- Written by a program of this session (wip/patch_print.py over the kit's print): functions of the given program as plain Lean functions, and that each call does what its function says, under no further conditions. -/
import Derived.Test.YtmpnaaegahjfkaaQx0
import Derived.Test.YtmpnaaegahjfkaaQx8
import Derived.Test.YtmpnaaegahjfkaaQx9
import Derived.Test.YtmpnaaegahjfkaaQx12
import Derived.Test.YtmpnaaegahjfkaaQx13
import Derived.Test.YtmpnaaegahjfkaaQx16
import Derived.Test.YtmpnaaegahjfkaaQx17
namespace Go.Proofs.Ytmpnaaegahjfkaa.Q
open Go.RowKit Go.Proofs.YtmpnaaegahjfkaaW.PrintWords Go.Proofs.YtmpnaaegahjfkaaW.PrintLast Go.Proofs.YtmpnaaegahjfkaaW.PrintMore
attribute [local go_sem] max2_int min2_int max_two min_two max_three min_three max_four min_four   -- for this text's walks alone
set_option linter.unusedVariables false
set_option linter.unusedSimpArgs false
attribute [local go_sem] xor_ones_u8 xor_ones_u16 xor_ones_u32 xor_ones_u64 cell_twice frozen_twice
abbrev zasaa := @List.setIfInBounds_toArray
abbrev zasab := @List.set_cons_zero
abbrev zasac := @List.set_cons_succ
abbrev zasad := @blk_drewN
abbrev zasae := @blk_alloc
abbrev zasaf := @blk_drew
abbrev zasag := @below_set
abbrev zasah := @pw_below_drewN
abbrev zasai := @below_drew1
abbrev zasaj := @below_alloc
abbrev zasak := @blk_cell
abbrev zasal := @blk_frozen
abbrev zasam := @List.map_toArray
abbrev zasan := @List.map_cons
abbrev zasao := @List.map_nil
abbrev zasap := @Aside0.mk
abbrev zassq0 : Array Bool := #[false, false, false, false, false, false, false, false, false, false, false, false, false, false, false, false, false, false, false, false, false, false, false, false, false, false, false, false, false, false, false, false]
abbrev zassq1 : Array Bool := #[true, false, false, false, false, false, false, false, false, false, false, false, false, false, false, false, false, false, false, false, false, false, false, false, false, false, false, false, false, false, false, false]
abbrev zassq2 : Array Bool := #[true, true, false, false, false, false, false, false, false, false, false, false, false, false, false, false, false, false, false, false, false, false, false, false, false, false, false, false, false, false, false, false]
abbrev zassq3 : Array Bool := #[true, true, true, false, false, false, false, false, false, false, false, false, false, false, false, false, false, false, false, false, false, false, false, false, false, false, false, false, false, false, false, false]
abbrev zassq4 : Array Bool := #[true, true, true, false, true, false, false, false, false, false, false, false, false, false, false, false, false, false, false, false, false, false, false, false, false, false, false, false, false, false, false, false]
abbrev zassq5 : Array Bool := #[true, true, true, true, true, false, false, false, false, false, false, false, false, false, false, false, false, false, false, false, false, false, false, false, false, false, false, false, false, false, false, false]
abbrev zassq6 : Array Bool := #[true, true, true, true, true, true, false, false, false, false, false, false, false, false, false, false, false, false, false, false, false, false, false, false, false, false, false, false, false, false, false, false]
abbrev zassq7 : Array Bool := #[true, true, true, true, true, true, true, false, false, false, false, false, false, false, false, false, false, false, false, false, false, false, false, false, false, false, false, false, false, false, false, false]
abbrev zassq8 : Array Bool := #[true, true, true, true, true, true, true, true, false, false, false, false, false, false, false, false, false, false, false, false, false, false, false, false, false, false, false, false, false, false, false, false]
abbrev zassq9 : Array Bool := #[true, true, true, true, true, true, true, true, true, false, false, false, false, false, false, false, false, false, false, false, false, false, false, false, false, false, false, false, false, false, false, false]
abbrev zassq10 : Array Bool := #[true, true, true, true, true, true, true, true, true, true, false, false, false, false, false, false, false, false, false, false, false, false, false, false, false, false, false, false, false, false, false, false]
abbrev zassq11 : Array Bool := #[true, true, true, true, true, true, true, true, true, true, true, false, false, false, false, false, false, false, false, false, false, false, false, false, false, false, false, false, false, false, false, false]
abbrev zassq12 : Array Bool := #[true, true, true, true, true, true, true, true, true, true, true, true, false, false, false, false, false, false, false, false, false, false, false, false, false, false, false, false, false, false, false, false]
abbrev zassq13 : Array Bool := #[true, true, true, true, true, true, true, true, true, true, true, true, true, false, false, false, false, false, false, false, false, false, false, false, false, false, false, false, false, false, false, false]
abbrev zassq14 : Array Bool := #[true, true, true, true, true, true, true, true, true, true, true, true, true, true, false, false, false, false, false, false, false, false, false, false, false, false, false, false, false, false, false, false]
abbrev zassq15 : Array Bool := #[true, true, true, true, true, true, true, true, true, true, true, true, true, true, false, true, false, false, false, false, false, false, false, false, false, false, false, false, false, false, false, false]
abbrev zassq16 : Array Bool := #[true, true, true, true, true, true, true, true, true, true, true, true, true, true, true, true, false, false, false, false, false, false, false, false, false, false, false, false, false, false, false, false]
abbrev zassq17 : Array Bool := #[true, true, true, true, true, true, true, true, true, true, true, true, true, true, true, true, true, false, false, false, false, false, false, false, false, false, false, false, false, false, false, false]
abbrev zassq18 : Array Bool := #[true, true, true, true, true, true, true, true, true, true, true, true, true, true, true, true, true, true, false, false, false, false, false, false, false, false, false, false, false, false, false, false]
abbrev zassq19 : Array Bool := #[true, true, true, true, true, true, true, true, true, true, true, true, true, true, true, true, true, true, true, false, false, false, false, false, false, false, false, false, false, false, false, false]
abbrev zassq20 : Array Bool := #[true, true, true, true, true, true, true, true, true, true, true, true, true, true, true, true, true, true, true, true, false, false, false, false, false, false, false, false, false, false, false, false]
abbrev zassq21 : Array Bool := #[true, true, true, true, true, true, true, true, true, true, true, true, true, true, true, true, true, true, true, true, true, false, false, false, false, false, false, false, false, false, false, false]
abbrev zassq22 : Array Bool := #[true, true, true, true, true, true, true, true, true, true, true, true, true, true, true, true, true, true, true, true, true, true, false, false, false, false, false, false, false, false, false, false]
abbrev zassq23 : Array Bool := #[true, true, true, true, true, true, true, true, true, true, true, true, true, true, true, true, true, true, true, true, true, true, true, false, false, false, false, false, false, false, false, false]
abbrev zassq24 : Array Bool := #[true, true, true, true, true, true, true, true, true, true, true, true, true, true, true, true, true, true, true, true, true, true, true, true, false, false, false, false, false, false, false, false]
abbrev zassq25 : Array Bool := #[true, true, true, true, true, true, true, true, true, true, true, true, true, true, true, true, true, true, true, true, true, true, true, true, true, false, false, false, false, false, false, false]
abbrev zassq26 : Array Bool := #[true, true, true, true, true, true, true, true, true, true, true, true, true, true, true, true, true, true, true, true, true, true, true, true, true, false, true, false, false, false, false, false]
abbrev zassq27 : Array Bool := #[true, true, true, true, true, true, true, true, true, true, true, true, true, true, true, true, true, true, true, true, true, true, true, true, true, true, true, false, false, false, false, false]
abbrev zassq28 : Array Bool := #[true, true, true, true, true, true, true, true, true, true, true, true, true, true, true, true, true, true, true, true, true, true, true, true, true, true, true, true, false, false, false, false]
abbrev zassq29 : Array Bool := #[true, true, true, true, true, true, true, true, true, true, true, true, true, true, true, true, true, true, true, true, true, true, true, true, true, true, true, true, true, false, false, false]
abbrev zassq30 : Array Bool := #[true, true, true, true, true, true, true, true, true, true, true, true, true, true, true, true, true, true, true, true, true, true, true, true, true, true, true, true, true, true, false, false]
abbrev zassq31 : Array Bool := #[true, true, true, true, true, true, true, true, true, true, true, true, true, true, true, true, true, true, true, true, true, true, true, true, true, true, true, true, true, true, true, false]
abbrev zassq32 : Array Bool := #[true, true, true, true, true, true, true, true, true, true, true, true, true, true, true, true, true, true, true, true, true, true, true, true, true, true, true, true, true, true, true, true]
/-! ### stowagelaw13_ChainFinds: function 6 -/
def stowagelaw13_ChainFinds.f (k : Nat) (l0 : List (S24)) (a1 : Int) : Option (Bool) := (chain_Latest.f k l0).bind fun bt354 => ((stowagelaw13_Refs.f k l0).bind fun t363 => ((stowageref13_Latest.f k t363).bind fun bt366 => ((chain_Find.f k l0 a1).bind fun bt375 => ((stowagelaw13_Refs.f k l0).bind fun t384 => ((stowageref13_Find.f k t384 a1).bind fun bt387 => ((stowagelaw13_awake.f k).bind fun t396 => (if t396 = true then ((stowagelaw13_Ref.f k bt354.1 bt354.2.1 bt354.2.2.1 bt354.2.2.2.1 bt354.2.2.2.2.1).bind fun bt397 => ((stowageref13_Same.f k bt397.1 bt397.2.1 bt397.2.2.1 bt397.2.2.2.1 bt397.2.2.2.2 bt366.1 bt366.2.1 bt366.2.2.1 bt366.2.2.2.1 bt366.2.2.2.2.1).bind fun t404 => (if t404 = true then (if bt354.2.2.2.2.2 = bt366.2.2.2.2.2 then ((stowagelaw13_Ref.f k bt375.1 bt375.2.1 bt375.2.2.1 bt375.2.2.2.1 bt375.2.2.2.2.1).bind fun bt405 => ((stowageref13_Same.f k bt405.1 bt405.2.1 bt405.2.2.1 bt405.2.2.2.1 bt405.2.2.2.2 bt387.1 bt387.2.1 bt387.2.2.1 bt387.2.2.2.1 bt387.2.2.2.2.1).bind fun t412 => (if t412 = true then (if bt375.2.2.2.2.2 = bt387.2.2.2.2.2 then ((chain_Ids.f k l0).bind fun t413 => ((stowagelaw13_Refs.f k l0).bind fun t416 => ((stowageref13_Ids.f k t416).bind fun t419 => ((stowagelaw01_Same.f k t413 t419).bind fun t422 => (some t422))))) else (some false)) else (some false)))) else (some false)) else (some false)))) else (some false))))))))
def stowagelaw13_ChainFinds.T5 : Bool × List (List Nat × List Nat) := (true, [([], []), ([0, 0], [0]), ([1], [1]), ([2, 1, 1], [1, 2]), ([1], [1]), ([3, 4, 3, 1], [1, 3, 4]), ([1, 5], [1, 5]), ([6, 5], [6]), ([7], [7]), ([7], [7]), ([8, 9, 7], [7, 8, 9]), ([7, 10], [7, 10]), ([11, 7], [11]), ([12], [12]), ([13, 12, 12], [12, 13]), ([12], [12]), ([14, 15, 14, 12], [12, 14, 15]), ([12, 16], [12, 16]), ([17, 16], [17]), ([18], [18]), ([18], [18]), ([19, 20, 18], [18, 19, 20]), ([18, 21], [18, 21]), ([22, 18], [22]), ([23], [23]), ([24, 23, 23], [23, 24]), ([23], [23]), ([26, 25, 23], [23, 26]), ([27, 27, 23], [23, 27]), ([25, 28, 28, 23], [23, 25, 28]), ([23, 29], [23, 29]), ([30, 29, 0, 1, 2, 3, 4, 5, 6, 7, 8, 9, 10, 11, 12, 13, 14, 15, 16, 17, 18, 19, 20, 21, 22, 23, 24, 25, 26, 27, 28, 29, 30], [30])])
def stowagelaw13_ChainFinds.B5 : List Nat := [0, 1, 3, 7, 3, 31, 63, 127, 255, 255, 1023, 2047, 4095, 8191, 16383, 8191, 65535, 131071, 262143, 524287, 524287, 2097151, 4194303, 8388607, 16777215, 33554431, 16777215, 134217727, 268435455, 536870911, 1073741823, 2147483647]
theorem stowagelaw13_ChainFinds.tab5 : rtab .any (opsOf Try.f6 5) = stowagelaw13_ChainFinds.T5 := by kernel_rfl
theorem stowagelaw13_ChainFinds.bits5 : waitsOk stowagelaw13_ChainFinds.T5.2 stowagelaw13_ChainFinds.B5 = true := by kernel_rfl
set_option maxHeartbeats 8000000 in
set_option maxRecDepth 100000 in
theorem stowagelaw13_ChainFinds.calls (k : Nat) (A0 : Option Addr) (c0 : Nat) (l0 : List (S24)) (a1 : Int) (r : Bool) (w : World) (hr0 : Kd.C k24 w A0 l0.length l0) (hc0 : l0.length ≤ c0) (h : stowagelaw13_ChainFinds.f k l0 a1 = some r) (hT : r = true) :
  Calls Try.prog 6 #[.slice A0 l0.length c0, .int .i64 a1] w fun e w' => e = .returned (.bool r) ∧ Below w.heap.size w w' := by
 have hu24 := Try.underlying24
 have hu36 := Try.underlying36
 have HR0 := zasap hr0
 have HC0 := zasap hc0
 clear hr0 hc0
 have HTR : Aside0 (r = true) := ⟨hT⟩
 clear hT
 have HB := zasap (Below.refl w.heap.size w)
 have H : ((chain_Latest.f k l0).bind fun bt354 => ((stowagelaw13_Refs.f k l0).bind fun t363 => ((stowageref13_Latest.f k t363).bind fun bt366 => ((chain_Find.f k l0 a1).bind fun bt375 => ((stowagelaw13_Refs.f k l0).bind fun t384 => ((stowageref13_Find.f k t384 a1).bind fun bt387 => ((stowagelaw13_awake.f k).bind fun t396 => (if t396 = true then ((stowagelaw13_Ref.f k bt354.1 bt354.2.1 bt354.2.2.1 bt354.2.2.2.1 bt354.2.2.2.2.1).bind fun bt397 => ((stowageref13_Same.f k bt397.1 bt397.2.1 bt397.2.2.1 bt397.2.2.2.1 bt397.2.2.2.2 bt366.1 bt366.2.1 bt366.2.2.1 bt366.2.2.2.1 bt366.2.2.2.2.1).bind fun t404 => (if t404 = true then (if bt354.2.2.2.2.2 = bt366.2.2.2.2.2 then ((stowagelaw13_Ref.f k bt375.1 bt375.2.1 bt375.2.2.1 bt375.2.2.2.1 bt375.2.2.2.2.1).bind fun bt405 => ((stowageref13_Same.f k bt405.1 bt405.2.1 bt405.2.2.1 bt405.2.2.2.1 bt405.2.2.2.2 bt387.1 bt387.2.1 bt387.2.2.1 bt387.2.2.2.1 bt387.2.2.2.2.1).bind fun t412 => (if t412 = true then (if bt375.2.2.2.2.2 = bt387.2.2.2.2.2 then ((chain_Ids.f k l0).bind fun t413 => ((stowagelaw13_Refs.f k l0).bind fun t416 => ((stowageref13_Ids.f k t416).bind fun t419 => ((stowagelaw01_Same.f k t413 t419).bind fun t422 => (some t422))))) else (some false)) else (some false)))) else (some false)) else (some false)))) else (some false))))))))) = some r := h
 clear h
 replace H := Option.bind_eq_some_iff.mp H
 obtain ⟨⟨t354, t355, t356, t357, t358, t361⟩, A30, H⟩ := H
 replace H : ((stowagelaw13_Refs.f k l0).bind fun t363 => ((stowageref13_Latest.f k t363).bind fun bt366 => ((chain_Find.f k l0 a1).bind fun bt375 => ((stowagelaw13_Refs.f k l0).bind fun t384 => ((stowageref13_Find.f k t384 a1).bind fun bt387 => ((stowagelaw13_awake.f k).bind fun t396 => (if t396 = true then ((stowagelaw13_Ref.f k t354 t355 t356 t357 t358).bind fun bt397 => ((stowageref13_Same.f k bt397.1 bt397.2.1 bt397.2.2.1 bt397.2.2.2.1 bt397.2.2.2.2 bt366.1 bt366.2.1 bt366.2.2.1 bt366.2.2.2.1 bt366.2.2.2.2.1).bind fun t404 => (if t404 = true then (if t361 = bt366.2.2.2.2.2 then ((stowagelaw13_Ref.f k bt375.1 bt375.2.1 bt375.2.2.1 bt375.2.2.2.1 bt375.2.2.2.2.1).bind fun bt405 => ((stowageref13_Same.f k bt405.1 bt405.2.1 bt405.2.2.1 bt405.2.2.2.1 bt405.2.2.2.2 bt387.1 bt387.2.1 bt387.2.2.1 bt387.2.2.2.1 bt387.2.2.2.2.1).bind fun t412 => (if t412 = true then (if bt375.2.2.2.2.2 = bt387.2.2.2.2.2 then ((chain_Ids.f k l0).bind fun t413 => ((stowagelaw13_Refs.f k l0).bind fun t416 => ((stowageref13_Ids.f k t416).bind fun t419 => ((stowagelaw01_Same.f k t413 t419).bind fun t422 => (some t422))))) else (some false)) else (some false)))) else (some false)) else (some false)))) else (some false)))))))) = some r := H
 have A3 := zasap A30
 clear A30
 replace H := Option.bind_eq_some_iff.mp H
 obtain ⟨t363, A40, H⟩ := H
 replace H : ((stowageref13_Latest.f k t363).bind fun bt366 => ((chain_Find.f k l0 a1).bind fun bt375 => ((stowagelaw13_Refs.f k l0).bind fun t384 => ((stowageref13_Find.f k t384 a1).bind fun bt387 => ((stowagelaw13_awake.f k).bind fun t396 => (if t396 = true then ((stowagelaw13_Ref.f k t354 t355 t356 t357 t358).bind fun bt397 => ((stowageref13_Same.f k bt397.1 bt397.2.1 bt397.2.2.1 bt397.2.2.2.1 bt397.2.2.2.2 bt366.1 bt366.2.1 bt366.2.2.1 bt366.2.2.2.1 bt366.2.2.2.2.1).bind fun t404 => (if t404 = true then (if t361 = bt366.2.2.2.2.2 then ((stowagelaw13_Ref.f k bt375.1 bt375.2.1 bt375.2.2.1 bt375.2.2.2.1 bt375.2.2.2.2.1).bind fun bt405 => ((stowageref13_Same.f k bt405.1 bt405.2.1 bt405.2.2.1 bt405.2.2.2.1 bt405.2.2.2.2 bt387.1 bt387.2.1 bt387.2.2.1 bt387.2.2.2.1 bt387.2.2.2.2.1).bind fun t412 => (if t412 = true then (if bt375.2.2.2.2.2 = bt387.2.2.2.2.2 then ((chain_Ids.f k l0).bind fun t413 => ((stowagelaw13_Refs.f k l0).bind fun t416 => ((stowageref13_Ids.f k t416).bind fun t419 => ((stowagelaw01_Same.f k t413 t419).bind fun t422 => (some t422))))) else (some false)) else (some false)))) else (some false)) else (some false)))) else (some false))))))) = some r := H
 have A4 := zasap A40
 clear A40
 replace H := Option.bind_eq_some_iff.mp H
 obtain ⟨⟨t366, t367, t368, t369, t370, t373⟩, A50, H⟩ := H
 replace H : ((chain_Find.f k l0 a1).bind fun bt375 => ((stowagelaw13_Refs.f k l0).bind fun t384 => ((stowageref13_Find.f k t384 a1).bind fun bt387 => ((stowagelaw13_awake.f k).bind fun t396 => (if t396 = true then ((stowagelaw13_Ref.f k t354 t355 t356 t357 t358).bind fun bt397 => ((stowageref13_Same.f k bt397.1 bt397.2.1 bt397.2.2.1 bt397.2.2.2.1 bt397.2.2.2.2 t366 t367 t368 t369 t370).bind fun t404 => (if t404 = true then (if t361 = t373 then ((stowagelaw13_Ref.f k bt375.1 bt375.2.1 bt375.2.2.1 bt375.2.2.2.1 bt375.2.2.2.2.1).bind fun bt405 => ((stowageref13_Same.f k bt405.1 bt405.2.1 bt405.2.2.1 bt405.2.2.2.1 bt405.2.2.2.2 bt387.1 bt387.2.1 bt387.2.2.1 bt387.2.2.2.1 bt387.2.2.2.2.1).bind fun t412 => (if t412 = true then (if bt375.2.2.2.2.2 = bt387.2.2.2.2.2 then ((chain_Ids.f k l0).bind fun t413 => ((stowagelaw13_Refs.f k l0).bind fun t416 => ((stowageref13_Ids.f k t416).bind fun t419 => ((stowagelaw01_Same.f k t413 t419).bind fun t422 => (some t422))))) else (some false)) else (some false)))) else (some false)) else (some false)))) else (some false)))))) = some r := H
 have A5 := zasap A50
 clear A50
 replace H := Option.bind_eq_some_iff.mp H
 obtain ⟨⟨t375, t376, t377, t378, t379, t382⟩, A60, H⟩ := H
 replace H : ((stowagelaw13_Refs.f k l0).bind fun t384 => ((stowageref13_Find.f k t384 a1).bind fun bt387 => ((stowagelaw13_awake.f k).bind fun t396 => (if t396 = true then ((stowagelaw13_Ref.f k t354 t355 t356 t357 t358).bind fun bt397 => ((stowageref13_Same.f k bt397.1 bt397.2.1 bt397.2.2.1 bt397.2.2.2.1 bt397.2.2.2.2 t366 t367 t368 t369 t370).bind fun t404 => (if t404 = true then (if t361 = t373 then ((stowagelaw13_Ref.f k t375 t376 t377 t378 t379).bind fun bt405 => ((stowageref13_Same.f k bt405.1 bt405.2.1 bt405.2.2.1 bt405.2.2.2.1 bt405.2.2.2.2 bt387.1 bt387.2.1 bt387.2.2.1 bt387.2.2.2.1 bt387.2.2.2.2.1).bind fun t412 => (if t412 = true then (if t382 = bt387.2.2.2.2.2 then ((chain_Ids.f k l0).bind fun t413 => ((stowagelaw13_Refs.f k l0).bind fun t416 => ((stowageref13_Ids.f k t416).bind fun t419 => ((stowagelaw01_Same.f k t413 t419).bind fun t422 => (some t422))))) else (some false)) else (some false)))) else (some false)) else (some false)))) else (some false))))) = some r := H
 have A6 := zasap A60
 clear A60
 replace H := Option.bind_eq_some_iff.mp H
 obtain ⟨t384, A70, H⟩ := H
 replace H : ((stowageref13_Find.f k t384 a1).bind fun bt387 => ((stowagelaw13_awake.f k).bind fun t396 => (if t396 = true then ((stowagelaw13_Ref.f k t354 t355 t356 t357 t358).bind fun bt397 => ((stowageref13_Same.f k bt397.1 bt397.2.1 bt397.2.2.1 bt397.2.2.2.1 bt397.2.2.2.2 t366 t367 t368 t369 t370).bind fun t404 => (if t404 = true then (if t361 = t373 then ((stowagelaw13_Ref.f k t375 t376 t377 t378 t379).bind fun bt405 => ((stowageref13_Same.f k bt405.1 bt405.2.1 bt405.2.2.1 bt405.2.2.2.1 bt405.2.2.2.2 bt387.1 bt387.2.1 bt387.2.2.1 bt387.2.2.2.1 bt387.2.2.2.2.1).bind fun t412 => (if t412 = true then (if t382 = bt387.2.2.2.2.2 then ((chain_Ids.f k l0).bind fun t413 => ((stowagelaw13_Refs.f k l0).bind fun t416 => ((stowageref13_Ids.f k t416).bind fun t419 => ((stowagelaw01_Same.f k t413 t419).bind fun t422 => (some t422))))) else (some false)) else (some false)))) else (some false)) else (some false)))) else (some false)))) = some r := H
 have A7 := zasap A70
 clear A70
 replace H := Option.bind_eq_some_iff.mp H
 obtain ⟨⟨t387, t388, t389, t390, t391, t394⟩, A80, H⟩ := H
 replace H : ((stowagelaw13_awake.f k).bind fun t396 => (if t396 = true then ((stowagelaw13_Ref.f k t354 t355 t356 t357 t358).bind fun bt397 => ((stowageref13_Same.f k bt397.1 bt397.2.1 bt397.2.2.1 bt397.2.2.2.1 bt397.2.2.2.2 t366 t367 t368 t369 t370).bind fun t404 => (if t404 = true then (if t361 = t373 then ((stowagelaw13_Ref.f k t375 t376 t377 t378 t379).bind fun bt405 => ((stowageref13_Same.f k bt405.1 bt405.2.1 bt405.2.2.1 bt405.2.2.2.1 bt405.2.2.2.2 t387 t388 t389 t390 t391).bind fun t412 => (if t412 = true then (if t382 = t394 then ((chain_Ids.f k l0).bind fun t413 => ((stowagelaw13_Refs.f k l0).bind fun t416 => ((stowageref13_Ids.f k t416).bind fun t419 => ((stowagelaw01_Same.f k t413 t419).bind fun t422 => (some t422))))) else (some false)) else (some false)))) else (some false)) else (some false)))) else (some false))) = some r := H
 have A8 := zasap A80
 clear A80
 replace H := Option.bind_eq_some_iff.mp H
 obtain ⟨t396, A90, H⟩ := H
 replace H : (if t396 = true then ((stowagelaw13_Ref.f k t354 t355 t356 t357 t358).bind fun bt397 => ((stowageref13_Same.f k bt397.1 bt397.2.1 bt397.2.2.1 bt397.2.2.2.1 bt397.2.2.2.2 t366 t367 t368 t369 t370).bind fun t404 => (if t404 = true then (if t361 = t373 then ((stowagelaw13_Ref.f k t375 t376 t377 t378 t379).bind fun bt405 => ((stowageref13_Same.f k bt405.1 bt405.2.1 bt405.2.2.1 bt405.2.2.2.1 bt405.2.2.2.2 t387 t388 t389 t390 t391).bind fun t412 => (if t412 = true then (if t382 = t394 then ((chain_Ids.f k l0).bind fun t413 => ((stowagelaw13_Refs.f k l0).bind fun t416 => ((stowageref13_Ids.f k t416).bind fun t419 => ((stowagelaw01_Same.f k t413 t419).bind fun t422 => (some t422))))) else (some false)) else (some false)))) else (some false)) else (some false)))) else (some false)) = some r := H
 have A9 := zasap A90
 clear A90
 by_cases c10 : t396 = true
 ·subst c10
  have H1 : ((stowagelaw13_Ref.f k t354 t355 t356 t357 t358).bind fun bt397 => ((stowageref13_Same.f k bt397.1 bt397.2.1 bt397.2.2.1 bt397.2.2.2.1 bt397.2.2.2.2 t366 t367 t368 t369 t370).bind fun t404 => (if t404 = true then (if t361 = t373 then ((stowagelaw13_Ref.f k t375 t376 t377 t378 t379).bind fun bt405 => ((stowageref13_Same.f k bt405.1 bt405.2.1 bt405.2.2.1 bt405.2.2.2.1 bt405.2.2.2.2 t387 t388 t389 t390 t391).bind fun t412 => (if t412 = true then (if t382 = t394 then ((chain_Ids.f k l0).bind fun t413 => ((stowagelaw13_Refs.f k l0).bind fun t416 => ((stowageref13_Ids.f k t416).bind fun t419 => ((stowagelaw01_Same.f k t413 t419).bind fun t422 => (some t422))))) else (some false)) else (some false)))) else (some false)) else (some false)))) = some r := by rw [if_pos rfl] at H; exact H
  clear H
  have H := H1
  clear H1
  replace H := Option.bind_eq_some_iff.mp H
  obtain ⟨⟨t397, t398, t399, t400, t401⟩, A110, H⟩ := H
  replace H : ((stowageref13_Same.f k t397 t398 t399 t400 t401 t366 t367 t368 t369 t370).bind fun t404 => (if t404 = true then (if t361 = t373 then ((stowagelaw13_Ref.f k t375 t376 t377 t378 t379).bind fun bt405 => ((stowageref13_Same.f k bt405.1 bt405.2.1 bt405.2.2.1 bt405.2.2.2.1 bt405.2.2.2.2 t387 t388 t389 t390 t391).bind fun t412 => (if t412 = true then (if t382 = t394 then ((chain_Ids.f k l0).bind fun t413 => ((stowagelaw13_Refs.f k l0).bind fun t416 => ((stowageref13_Ids.f k t416).bind fun t419 => ((stowagelaw01_Same.f k t413 t419).bind fun t422 => (some t422))))) else (some false)) else (some false)))) else (some false)) else (some false))) = some r := H
  have A11 := zasap A110
  clear A110
  replace H := Option.bind_eq_some_iff.mp H
  obtain ⟨t404, A120, H⟩ := H
  replace H : (if t404 = true then (if t361 = t373 then ((stowagelaw13_Ref.f k t375 t376 t377 t378 t379).bind fun bt405 => ((stowageref13_Same.f k bt405.1 bt405.2.1 bt405.2.2.1 bt405.2.2.2.1 bt405.2.2.2.2 t387 t388 t389 t390 t391).bind fun t412 => (if t412 = true then (if t382 = t394 then ((chain_Ids.f k l0).bind fun t413 => ((stowagelaw13_Refs.f k l0).bind fun t416 => ((stowageref13_Ids.f k t416).bind fun t419 => ((stowagelaw01_Same.f k t413 t419).bind fun t422 => (some t422))))) else (some false)) else (some false)))) else (some false)) else (some false)) = some r := H
  have A12 := zasap A120
  clear A120
  by_cases c13 : t404 = true
  ·subst c13
   have H1 : (if t361 = t373 then ((stowagelaw13_Ref.f k t375 t376 t377 t378 t379).bind fun bt405 => ((stowageref13_Same.f k bt405.1 bt405.2.1 bt405.2.2.1 bt405.2.2.2.1 bt405.2.2.2.2 t387 t388 t389 t390 t391).bind fun t412 => (if t412 = true then (if t382 = t394 then ((chain_Ids.f k l0).bind fun t413 => ((stowagelaw13_Refs.f k l0).bind fun t416 => ((stowageref13_Ids.f k t416).bind fun t419 => ((stowagelaw01_Same.f k t413 t419).bind fun t422 => (some t422))))) else (some false)) else (some false)))) else (some false)) = some r := by rw [if_pos rfl] at H; exact H
   clear H
   have H := H1
   clear H1
   by_cases c14 : t361 = t373
   ·rw [if_pos c14] at H
    have c14b0 : (t361 == t373) = true := beq_iff_eq.mpr c14
    have c14b1 : (t361 != t373) = false := bne_eq_false_iff_eq.mpr c14
    clear c14
    replace H := Option.bind_eq_some_iff.mp H
    obtain ⟨⟨t405, t406, t407, t408, t409⟩, A150, H⟩ := H
    replace H : ((stowageref13_Same.f k t405 t406 t407 t408 t409 t387 t388 t389 t390 t391).bind fun t412 => (if t412 = true then (if t382 = t394 then ((chain_Ids.f k l0).bind fun t413 => ((stowagelaw13_Refs.f k l0).bind fun t416 => ((stowageref13_Ids.f k t416).bind fun t419 => ((stowagelaw01_Same.f k t413 t419).bind fun t422 => (some t422))))) else (some false)) else (some false))) = some r := H
    have A15 := zasap A150
    clear A150
    replace H := Option.bind_eq_some_iff.mp H
    obtain ⟨t412, A160, H⟩ := H
    replace H : (if t412 = true then (if t382 = t394 then ((chain_Ids.f k l0).bind fun t413 => ((stowagelaw13_Refs.f k l0).bind fun t416 => ((stowageref13_Ids.f k t416).bind fun t419 => ((stowagelaw01_Same.f k t413 t419).bind fun t422 => (some t422))))) else (some false)) else (some false)) = some r := H
    have A16 := zasap A160
    clear A160
    by_cases c17 : t412 = true
    ·subst c17
     have H1 : (if t382 = t394 then ((chain_Ids.f k l0).bind fun t413 => ((stowagelaw13_Refs.f k l0).bind fun t416 => ((stowageref13_Ids.f k t416).bind fun t419 => ((stowagelaw01_Same.f k t413 t419).bind fun t422 => (some t422))))) else (some false)) = some r := by rw [if_pos rfl] at H; exact H
     clear H
     have H := H1
     clear H1
     by_cases c18 : t382 = t394
     ·rw [if_pos c18] at H
      have c18b0 : (t382 == t394) = true := beq_iff_eq.mpr c18
      have c18b1 : (t382 != t394) = false := bne_eq_false_iff_eq.mpr c18
      clear c18
      replace H := Option.bind_eq_some_iff.mp H
      obtain ⟨t413, A190, H⟩ := H
      replace H : ((stowagelaw13_Refs.f k l0).bind fun t416 => ((stowageref13_Ids.f k t416).bind fun t419 => ((stowagelaw01_Same.f k t413 t419).bind fun t422 => (some t422)))) = some r := H
      have A19 := zasap A190
      clear A190
      replace H := Option.bind_eq_some_iff.mp H
      obtain ⟨t416, A200, H⟩ := H
      replace H : ((stowageref13_Ids.f k t416).bind fun t419 => ((stowagelaw01_Same.f k t413 t419).bind fun t422 => (some t422))) = some r := H
      have A20 := zasap A200
      clear A200
      replace H := Option.bind_eq_some_iff.mp H
      obtain ⟨t419, A210, H⟩ := H
      replace H : ((stowagelaw01_Same.f k t413 t419).bind fun t422 => (some t422)) = some r := H
      have A21 := zasap A210
      clear A210
      replace H := Option.bind_eq_some_iff.mp H
      obtain ⟨t422, A220, H⟩ := H
      replace H : (some t422) = some r := H
      have A22 := zasap A220
      clear A220
      obtain rfl := Option.some.inj H
      go_enter Try.func6, Try.ntmps6
      try go_wp2_with (first | ((with_reducible refine gate_callee (f := 24) rfl ?_); refine goesL_ (some 15) rfl rfl Try.func24 (by kernel_rfl) rfl #[.slice A0 l0.length c0] rfl (by (try simp only [zasam, zasan, zasao]); first | done | rfl) ?_; (with_reducible refine (chain_Latest.calls k _ _ l0 t354 t355 t356 t357 t358 t361 _ ?side1 ?side2 A3.out).mono ?_); (case side1 => repeat (first | exact HR0.out | (with_reducible refine Kd.C_alloc ?_ _) | (with_reducible refine Kd.C_drewN ?_ _) | (with_reducible refine Kd.C_drew ?_))); (case side2 => exact HC0.out); rintro e w23 ⟨v359, rfl, ho0, hb⟩; refine ⟨_, rfl, ?_⟩; have n0_ := zasap (Kd.R_lower ho0 (below_size (by repeat (first | (with_reducible first | exact HB.out | apply zasaj | apply zasah | apply zasai) | exact HB.out)))); have n1_ := zasap (below_step (by repeat (first | (with_reducible first | exact HB.out | apply zasaj | apply zasah | apply zasai) | exact HB.out)) hb); clear HB; have HO360 := n0_; have HB := n1_; clear n0_ n1_; (try clear hb); (try clear hk); (try clear hi); (try clear ho0)) | ((with_reducible refine gate_dst (N := 5) rfl ?_); refine box_event ?hg (N := 5) ?hd (cs := #[.int .i64 0, .bool false, .int .i64 0, .string (⟨#[]⟩ : ByteArray), .slice none 0 0]) (t := 24) ?hr ?_; (case hd => rfl); (case hg => rfl); (case hr => first | (go_simp; done) | (go_simp; rfl)); intro zasay hg w24 hbox hb; have n0_ := zasap (Kd.R_below (by (with_reducible repeat (first | apply Kd.R_alloc | apply Kd.R_drewN | apply Kd.R_drew)); exact HO360.out) hb); have n1_ := zasap (below_step (by repeat (first | (with_reducible first | exact HB.out | apply zasaj | apply zasah | apply zasai) | exact HB.out)) hb); have n2_ := zasap (hbox); have n3_ := zasap ((by rw [hg]; exact (below_size (by repeat (first | (with_reducible first | exact HB.out | apply zasaj | apply zasah | apply zasai) | exact HB.out))) : w.heap.size ≤ zasay)); have n4_ := zasap ((by rw [hg]; exact (below_size (by repeat (first | (with_reducible first | exact HB.out | apply zasaj | apply zasah | apply zasai) | exact HB.out))) : w.heap.size ≤ zasay)); clear HO360; clear HB; have HO360 := n0_; have HB := n1_; have zasas := n2_; have zasdd := n3_; have zasaz := n4_; clear n0_ n1_ n2_ n3_ n4_; clear hb hbox hg; have zasbp : w24.cell? ⟨zasay, 0, none⟩ = some (.int .i64 0) := (zasak zasas.out 0).trans rfl; have zasbq : w24.cell? ⟨zasay, 1, none⟩ = some (.bool false) := (zasak zasas.out 1).trans rfl; have zasbr : w24.cell? ⟨zasay, 2, none⟩ = some (.int .i64 0) := (zasak zasas.out 2).trans rfl; have zasbs : w24.cell? ⟨zasay, 3, none⟩ = some (.string (⟨#[]⟩ : ByteArray)) := (zasak zasas.out 3).trans rfl; have zasbt : w24.cell? ⟨zasay, 4, none⟩ = some (.slice none 0 0) := (zasak zasas.out 4).trans rfl; have zasbu := zasal zasas.out 0; have zasbv := zasal zasas.out 1; have zasbw := zasal zasas.out 2; have zasbx := zasal zasas.out 3; have zasby := zasal zasas.out 4; obtain ⟨Ao26, co26, eo26⟩ := Kd.R_slice HO360.out; subst eo26) | ((with_reducible refine gate_callee (f := 18) rfl ?_); refine goesL_ (some 20) rfl rfl Try.func18 (by kernel_rfl) rfl #[.slice A0 l0.length c0] rfl (by (try simp only [zasam, zasan, zasao]); first | done | rfl) ?_; (with_reducible refine (stowagelaw13_Refs.calls k _ _ l0 t363 _ ?side1 ?side2 A4.out).mono ?_); (case side1 => exact Kd.C_below HR0.out (by repeat (first | (with_reducible first | exact HB.out | apply zasaj | apply zasah | apply zasai | refine zasag ?_ zasaz.out) | exact HB.out))); (case side2 => exact HC0.out); rintro e w27 ⟨v364, rfl, ho0, hb⟩; refine ⟨_, rfl, ?_⟩; have n0_ := zasap (Kd.R_below (by (with_reducible repeat (first | apply Kd.R_alloc | apply Kd.R_drewN | apply Kd.R_drew)); exact (Kd.R_mono (Kd.R_far (p := ⟨zasay, 4, none⟩) (Kd.R_far (p := ⟨zasay, 3, none⟩) (Kd.R_far (p := ⟨zasay, 2, none⟩) (Kd.R_far (p := ⟨zasay, 1, none⟩) (Kd.R_far (p := ⟨zasay, 0, none⟩) (Kd.R_types HO360.out zasas.out (by decide)) (fun _ hk => hk.2) (.int .i64 t354)) (fun _ hk => hk.2) (.bool t355)) (fun _ hk => hk.2) (.int .i64 t356)) (fun _ hk => hk.2) (.string t357)) (fun _ hk => hk.2) (.slice Ao26 t358.length co26)) (fun _ h_ => h_.1))) hb); have n1_ := zasap (Kd.S_lower ho0 (below_size (by repeat (first | (with_reducible first | exact HB.out | apply zasaj | apply zasah | apply zasai | refine zasag ?_ zasaz.out) | exact HB.out)))); have n2_ := zasap (blk_below (g := zasay) (o := .cells #[.int .i64 t354, .bool t355, .int .i64 t356, .string t357, .slice Ao26 t358.length co26] 24 (0, 0)) (by (with_reducible repeat (first | refine zasad ?_ _ | refine zasaf ?_ | refine zasae ?_ _)); refine blk_put (cs := #[.int .i64 t354, .bool t355, .int .i64 t356, .string t357, .slice none 0 0]) ?_ 4 _ rfl; (with_reducible repeat (first | refine zasad ?_ _ | refine zasaf ?_ | refine zasae ?_ _)); refine blk_put (cs := #[.int .i64 t354, .bool t355, .int .i64 t356, .string (⟨#[]⟩ : ByteArray), .slice none 0 0]) ?_ 3 _ rfl; (with_reducible repeat (first | refine zasad ?_ _ | refine zasaf ?_ | refine zasae ?_ _)); refine blk_put (cs := #[.int .i64 t354, .bool t355, .int .i64 0, .string (⟨#[]⟩ : ByteArray), .slice none 0 0]) ?_ 2 _ rfl; (with_reducible repeat (first | refine zasad ?_ _ | refine zasaf ?_ | refine zasae ?_ _)); refine blk_put (cs := #[.int .i64 t354, .bool false, .int .i64 0, .string (⟨#[]⟩ : ByteArray), .slice none 0 0]) ?_ 1 _ rfl; (with_reducible repeat (first | refine zasad ?_ _ | refine zasaf ?_ | refine zasae ?_ _)); refine blk_put (cs := #[.int .i64 0, .bool false, .int .i64 0, .string (⟨#[]⟩ : ByteArray), .slice none 0 0]) ?_ 0 _ rfl; (with_reducible repeat (first | refine zasad ?_ _ | refine zasaf ?_ | refine zasae ?_ _)); exact zasas.out) hb); have n3_ := zasap (below_step (by repeat (first | (with_reducible first | exact HB.out | apply zasaj | apply zasah | apply zasai | refine zasag ?_ zasaz.out) | exact HB.out)) hb); clear HO360; clear zasas; clear HB; have HO360 := n0_; have HO365 := n1_; have zasas := n2_; have HB := n3_; clear n0_ n1_ n2_ n3_; (try clear hb); (try clear hk); (try clear hi); (try clear ho0); obtain ⟨Ao28, co28, eo28⟩ := Kd.S_slice HO365.out; subst eo28) | ((with_reducible refine gate_callee (f := 25) rfl ?_); refine goesL_ (some 21) rfl rfl Try.func25 (by kernel_rfl) rfl #[.slice Ao28 t363.length co28] rfl (by (try simp only [zasam, zasan, zasao]); first | done | rfl) ?_; (with_reducible refine (stowageref13_Latest.calls k (fun k_ => ((True ∧ some k_ ≠ (.slice Ao26 t358.length co26 : Value).ownBlock) ∧ k_ ≠ zasay)) _ _ t363 t366 t367 t368 t369 t370 t373 _ ?side1 A5.out).mono ?_); (case side1 => exact Kd.S_V (Kd.S_types (Kd.S_apart' (HO365.out) (Kd.R_typed HO360.out) (by decide)) zasas.out (by decide))); rintro e w29 ⟨v371, rfl, ho0, hb⟩; refine ⟨_, rfl, ?_⟩; have n0_ := zasap (Kd.R_below (by (with_reducible repeat (first | apply Kd.R_alloc | apply Kd.R_drewN | apply Kd.R_drew)); exact HO360.out) hb); have n1_ := zasap (Kd.S_below (by (with_reducible repeat (first | apply Kd.S_alloc | apply Kd.S_drewN | apply Kd.S_drew)); exact HO365.out) hb); have n2_ := zasap (Kd.V_lower (Kd.V_mono (ok' := fun k_ => some k_ ≠ (.slice Ao26 t358.length co26 : Value).ownBlock ∧ k_ ≠ zasay) ho0 (fun k_ hk_ => ⟨Or.elim hk_ (fun hs_ => hs_.1.2) (fun hn_ => (Kd.fresh' (Kd.R_lt (by (with_reducible repeat (first | apply Kd.R_alloc | apply Kd.R_drewN | apply Kd.R_drew)); exact HO360.out)) k_ hn_)), Or.elim hk_ (fun hs_ => hs_.2) (fun hn_ => (Kd.freshB (g := zasay) (o := .cells #[.int .i64 t354, .bool t355, .int .i64 t356, .string t357, .slice Ao26 t358.length co26] 24 (0, 0)) (by (with_reducible repeat (first | refine zasad ?_ _ | refine zasaf ?_ | refine zasae ?_ _)); exact zasas.out) k_ hn_))⟩)) (below_size (by repeat (first | (with_reducible first | exact HB.out | apply zasaj | apply zasah | apply zasai | refine zasag ?_ zasaz.out) | exact HB.out)))); have n3_ := zasap (blk_below (g := zasay) (o := .cells #[.int .i64 t354, .bool t355, .int .i64 t356, .string t357, .slice Ao26 t358.length co26] 24 (0, 0)) (by (with_reducible repeat (first | refine zasad ?_ _ | refine zasaf ?_ | refine zasae ?_ _)); exact zasas.out) hb); have n4_ := zasap (below_step (by repeat (first | (with_reducible first | exact HB.out | apply zasaj | apply zasah | apply zasai | refine zasag ?_ zasaz.out) | exact HB.out)) hb); clear HO360; clear HO365; clear zasas; clear HB; have HO360 := n0_; have HO365 := n1_; have HO372 := n2_; have zasas := n3_; have HB := n4_; clear n0_ n1_ n2_ n3_ n4_; (try clear hb); (try clear hk); (try clear hi); (try clear ho0)) | ((with_reducible refine gate_dst (N := 7) rfl ?_); refine box_event ?hg (N := 7) ?hd (cs := #[.int .i64 0, .bool false, .int .i64 0, .string (⟨#[]⟩ : ByteArray), .slice none 0 0]) (t := 36) ?hr ?_; (case hd => rfl); (case hg => rfl); (case hr => first | (go_simp; done) | (go_simp; rfl)); intro zasaw hg w30 hbox hb; have n0_ := zasap (Kd.R_below (by (with_reducible repeat (first | apply Kd.R_alloc | apply Kd.R_drewN | apply Kd.R_drew)); exact HO360.out) hb); have n1_ := zasap (Kd.S_below (Kd.S_elderB (by (with_reducible repeat (first | apply Kd.S_alloc | apply Kd.S_drewN | apply Kd.S_drew)); exact HO365.out) zasaw (Nat.le_of_eq hg.symm)) hb); have n2_ := zasap (Kd.V_below (Kd.V_elderB (by (with_reducible repeat (first | apply Kd.V_alloc | apply Kd.V_drewN | apply Kd.V_drew)); exact HO372.out) zasaw (Nat.le_of_eq hg.symm)) hb); have n3_ := zasap (blk_below (g := zasay) (o := .cells #[.int .i64 t354, .bool t355, .int .i64 t356, .string t357, .slice Ao26 t358.length co26] 24 (0, 0)) (by (with_reducible repeat (first | refine zasad ?_ _ | refine zasaf ?_ | refine zasae ?_ _)); exact zasas.out) hb); have n4_ := zasap (below_step (by repeat (first | (with_reducible first | exact HB.out | apply zasaj | apply zasah | apply zasai | refine zasag ?_ zasaz.out) | exact HB.out)) hb); have n5_ := zasap (hbox); have n6_ := zasap ((by rw [hg]; exact (below_size (by repeat (first | (with_reducible first | exact HB.out | apply zasaj | apply zasah | apply zasai | refine zasag ?_ zasaz.out) | exact HB.out))) : w.heap.size ≤ zasaw)); have n7_ := zasap ((by rw [hg]; exact (below_size (by repeat (first | (with_reducible first | exact HB.out | apply zasaj | apply zasah | apply zasai | refine zasag ?_ zasaz.out) | exact HB.out))) : w.heap.size ≤ zasaw)); have n8_ := zasap ((by rw [hg]; exact Nat.ne_of_lt (blk_lt (g := zasay) (o := .cells #[.int .i64 t354, .bool t355, .int .i64 t356, .string t357, .slice Ao26 t358.length co26] 24 (0, 0)) (by (with_reducible repeat (first | refine zasad ?_ _ | refine zasaf ?_ | refine zasae ?_ _)); exact zasas.out)) : zasay ≠ zasaw)); have n9_ := zasap ((by rw [hg]; exact Nat.ne_of_gt (blk_lt (g := zasay) (o := .cells #[.int .i64 t354, .bool t355, .int .i64 t356, .string t357, .slice Ao26 t358.length co26] 24 (0, 0)) (by (with_reducible repeat (first | refine zasad ?_ _ | refine zasaf ?_ | refine zasae ?_ _)); exact zasas.out)) : zasaw ≠ zasay)); clear HO360; clear HO365; clear HO372; clear zasas; clear HB; have HO360 := n0_; have HO365 := n1_; have HO372 := n2_; have zasas := n3_; have HB := n4_; have zasat := n5_; have zasde := n6_; have zasba := n7_; have zasbe := n8_; have zasbj := n9_; clear n0_ n1_ n2_ n3_ n4_ n5_ n6_ n7_ n8_ n9_; clear hb hbox hg; have hnb31 := zasbj.out; have hnc31 := zasbe.out; have zasbz : w30.cell? ⟨zasaw, 0, none⟩ = some (.int .i64 0) := (zasak zasat.out 0).trans rfl; have zasca : w30.cell? ⟨zasaw, 1, none⟩ = some (.bool false) := (zasak zasat.out 1).trans rfl; have zascb : w30.cell? ⟨zasaw, 2, none⟩ = some (.int .i64 0) := (zasak zasat.out 2).trans rfl; have zascc : w30.cell? ⟨zasaw, 3, none⟩ = some (.string (⟨#[]⟩ : ByteArray)) := (zasak zasat.out 3).trans rfl; have zascd : w30.cell? ⟨zasaw, 4, none⟩ = some (.slice none 0 0) := (zasak zasat.out 4).trans rfl; have zasce := zasal zasat.out 0; have zascf := zasal zasat.out 1; have zascg := zasal zasat.out 2; have zasch := zasal zasat.out 3; have zasci := zasal zasat.out 4; obtain ⟨Ao33, co33, eo33⟩ := Kd.V_slice HO372.out; subst eo33) | ((with_reducible refine gate_callee (f := 22) rfl ?_); refine goesL_ (some 27) rfl rfl Try.func22 (by kernel_rfl) rfl #[.slice A0 l0.length c0, .int .i64 a1] rfl (by (try simp only [zasam, zasan, zasao]); first | done | rfl) ?_; (with_reducible refine (chain_Find.calls k _ _ l0 a1 t375 t376 t377 t378 t379 t382 _ ?side1 ?side2 A6.out).mono ?_); (case side1 => exact Kd.C_below HR0.out (by repeat (first | (with_reducible first | exact HB.out | apply zasaj | apply zasah | apply zasai | refine zasag ?_ zasaz.out | refine zasag ?_ zasba.out) | exact HB.out))); (case side2 => exact HC0.out); rintro e w34 ⟨v380, rfl, ho0, hb⟩; refine ⟨_, rfl, ?_⟩; have n0_ := zasap (Kd.R_elder' (by (with_reducible repeat (first | apply Kd.R_alloc | apply Kd.R_drewN | apply Kd.R_drew)); exact (Kd.R_mono (Kd.R_far (p := ⟨zasaw, 4, none⟩) (Kd.R_far (p := ⟨zasaw, 3, none⟩) (Kd.R_far (p := ⟨zasaw, 2, none⟩) (Kd.R_far (p := ⟨zasaw, 1, none⟩) (Kd.R_far (p := ⟨zasaw, 0, none⟩) (Kd.R_types HO360.out zasat.out (by decide)) (fun _ hk => hk.2) (.int .i64 t366)) (fun _ hk => hk.2) (.bool t367)) (fun _ hk => hk.2) (.int .i64 t368)) (fun _ hk => hk.2) (.string t369)) (fun _ hk => hk.2) (.slice Ao33 t370.length co33)) (fun _ h_ => h_.1))) (Kd.R_base ho0) hb); have n1_ := zasap (Kd.S_below (by (with_reducible repeat (first | apply Kd.S_alloc | apply Kd.S_drewN | apply Kd.S_drew)); exact (Kd.S_mono (Kd.S_far (p := ⟨zasaw, 4, none⟩) (Kd.S_far (p := ⟨zasaw, 3, none⟩) (Kd.S_far (p := ⟨zasaw, 2, none⟩) (Kd.S_far (p := ⟨zasaw, 1, none⟩) (Kd.S_far (p := ⟨zasaw, 0, none⟩) (Kd.S_mono HO365.out (fun k_ hk => (⟨hk, hk.2⟩ : _ ∧ k_ ≠ zasaw))) (fun _ hk => hk.2) (.int .i64 t366)) (fun _ hk => hk.2) (.bool t367)) (fun _ hk => hk.2) (.int .i64 t368)) (fun _ hk => hk.2) (.string t369)) (fun _ hk => hk.2) (.slice Ao33 t370.length co33)) (fun _ h_ => h_.1))) hb); have n2_ := zasap (Kd.V_elder' (by (with_reducible repeat (first | apply Kd.V_alloc | apply Kd.V_drewN | apply Kd.V_drew)); exact (Kd.V_mono (Kd.V_far (p := ⟨zasaw, 4, none⟩) (Kd.V_far (p := ⟨zasaw, 3, none⟩) (Kd.V_far (p := ⟨zasaw, 2, none⟩) (Kd.V_far (p := ⟨zasaw, 1, none⟩) (Kd.V_far (p := ⟨zasaw, 0, none⟩) (Kd.V_mono HO372.out (fun k_ hk => (⟨hk, hk.2⟩ : _ ∧ k_ ≠ zasaw))) (fun _ hk => hk.2) (.int .i64 t366)) (fun _ hk => hk.2) (.bool t367)) (fun _ hk => hk.2) (.int .i64 t368)) (fun _ hk => hk.2) (.string t369)) (fun _ hk => hk.2) (.slice Ao33 t370.length co33)) (fun _ h_ => h_.1))) (Kd.R_base ho0) hb); have n3_ := zasap (Kd.R_lower (Kd.R_new' ho0 (Kd.R_lt (by (with_reducible repeat (first | apply Kd.R_alloc | apply Kd.R_drewN | apply Kd.R_drew)); exact (Kd.R_mono (Kd.R_far (p := ⟨zasaw, 4, none⟩) (Kd.R_far (p := ⟨zasaw, 3, none⟩) (Kd.R_far (p := ⟨zasaw, 2, none⟩) (Kd.R_far (p := ⟨zasaw, 1, none⟩) (Kd.R_far (p := ⟨zasaw, 0, none⟩) (Kd.R_types HO360.out zasat.out (by decide)) (fun _ hk => hk.2) (.int .i64 t366)) (fun _ hk => hk.2) (.bool t367)) (fun _ hk => hk.2) (.int .i64 t368)) (fun _ hk => hk.2) (.string t369)) (fun _ hk => hk.2) (.slice Ao33 t370.length co33)) (fun _ h_ => h_.1))))) (below_size (by repeat (first | (with_reducible first | exact HB.out | apply zasaj | apply zasah | apply zasai | refine zasag ?_ zasaz.out | refine zasag ?_ zasba.out) | exact HB.out)))); have n4_ := zasap (blk_below (g := zasay) (o := .cells #[.int .i64 t354, .bool t355, .int .i64 t356, .string t357, .slice Ao26 t358.length co26] 24 (0, 0)) (by (with_reducible repeat (first | refine zasad ?_ _ | refine zasaf ?_ | refine zasae ?_ _)); refine blk_far ?_ zasbe.out _; (with_reducible repeat (first | refine zasad ?_ _ | refine zasaf ?_ | refine zasae ?_ _)); refine blk_far ?_ zasbe.out _; (with_reducible repeat (first | refine zasad ?_ _ | refine zasaf ?_ | refine zasae ?_ _)); refine blk_far ?_ zasbe.out _; (with_reducible repeat (first | refine zasad ?_ _ | refine zasaf ?_ | refine zasae ?_ _)); refine blk_far ?_ zasbe.out _; (with_reducible repeat (first | refine zasad ?_ _ | refine zasaf ?_ | refine zasae ?_ _)); refine blk_far ?_ zasbe.out _; (with_reducible repeat (first | refine zasad ?_ _ | refine zasaf ?_ | refine zasae ?_ _)); exact zasas.out) hb); have n5_ := zasap (blk_below (g := zasaw) (o := .cells #[.int .i64 t366, .bool t367, .int .i64 t368, .string t369, .slice Ao33 t370.length co33] 36 (0, 0)) (by (with_reducible repeat (first | refine zasad ?_ _ | refine zasaf ?_ | refine zasae ?_ _)); refine blk_put (cs := #[.int .i64 t366, .bool t367, .int .i64 t368, .string t369, .slice none 0 0]) ?_ 4 _ rfl; (with_reducible repeat (first | refine zasad ?_ _ | refine zasaf ?_ | refine zasae ?_ _)); refine blk_put (cs := #[.int .i64 t366, .bool t367, .int .i64 t368, .string (⟨#[]⟩ : ByteArray), .slice none 0 0]) ?_ 3 _ rfl; (with_reducible repeat (first | refine zasad ?_ _ | refine zasaf ?_ | refine zasae ?_ _)); refine blk_put (cs := #[.int .i64 t366, .bool t367, .int .i64 0, .string (⟨#[]⟩ : ByteArray), .slice none 0 0]) ?_ 2 _ rfl; (with_reducible repeat (first | refine zasad ?_ _ | refine zasaf ?_ | refine zasae ?_ _)); refine blk_put (cs := #[.int .i64 t366, .bool false, .int .i64 0, .string (⟨#[]⟩ : ByteArray), .slice none 0 0]) ?_ 1 _ rfl; (with_reducible repeat (first | refine zasad ?_ _ | refine zasaf ?_ | refine zasae ?_ _)); refine blk_put (cs := #[.int .i64 0, .bool false, .int .i64 0, .string (⟨#[]⟩ : ByteArray), .slice none 0 0]) ?_ 0 _ rfl; (with_reducible repeat (first | refine zasad ?_ _ | refine zasaf ?_ | refine zasae ?_ _)); exact zasat.out) hb); have n6_ := zasap (below_step (by repeat (first | (with_reducible first | exact HB.out | apply zasaj | apply zasah | apply zasai | refine zasag ?_ zasaz.out | refine zasag ?_ zasba.out) | exact HB.out)) hb); clear HO360; clear HO365; clear HO372; clear zasas; clear zasat; clear HB; have HO360 := n0_; have HO365 := n1_; have HO372 := n2_; have HO381 := n3_; have zasas := n4_; have zasat := n5_; have HB := n6_; clear n0_ n1_ n2_ n3_ n4_ n5_ n6_; (try clear hb); (try clear hk); (try clear hi); (try clear ho0)) | ((with_reducible refine gate_dst (N := 9) rfl ?_); refine box_event ?hg (N := 9) ?hd (cs := #[.int .i64 0, .bool false, .int .i64 0, .string (⟨#[]⟩ : ByteArray), .slice none 0 0]) (t := 24) ?hr ?_; (case hd => rfl); (case hg => rfl); (case hr => first | (go_simp; done) | (go_simp; rfl)); intro zasax hg w35 hbox hb; have n0_ := zasap (Kd.R_below (by (with_reducible repeat (first | apply Kd.R_alloc | apply Kd.R_drewN | apply Kd.R_drew)); exact HO360.out) hb); have n1_ := zasap (Kd.S_below (by (with_reducible repeat (first | apply Kd.S_alloc | apply Kd.S_drewN | apply Kd.S_drew)); exact HO365.out) hb); have n2_ := zasap (Kd.V_below (Kd.V_elderB (by (with_reducible repeat (first | apply Kd.V_alloc | apply Kd.V_drewN | apply Kd.V_drew)); exact HO372.out) zasax (Nat.le_of_eq hg.symm)) hb); have n3_ := zasap (Kd.R_below (by (with_reducible repeat (first | apply Kd.R_alloc | apply Kd.R_drewN | apply Kd.R_drew)); exact HO381.out) hb); have n4_ := zasap (blk_below (g := zasay) (o := .cells #[.int .i64 t354, .bool t355, .int .i64 t356, .string t357, .slice Ao26 t358.length co26] 24 (0, 0)) (by (with_reducible repeat (first | refine zasad ?_ _ | refine zasaf ?_ | refine zasae ?_ _)); exact zasas.out) hb); have n5_ := zasap (blk_below (g := zasaw) (o := .cells #[.int .i64 t366, .bool t367, .int .i64 t368, .string t369, .slice Ao33 t370.length co33] 36 (0, 0)) (by (with_reducible repeat (first | refine zasad ?_ _ | refine zasaf ?_ | refine zasae ?_ _)); exact zasat.out) hb); have n6_ := zasap (below_step (by repeat (first | (with_reducible first | exact HB.out | apply zasaj | apply zasah | apply zasai | refine zasag ?_ zasaz.out | refine zasag ?_ zasba.out) | exact HB.out)) hb); have n7_ := zasap (hbox); have n8_ := zasap ((by rw [hg]; exact (below_size (by repeat (first | (with_reducible first | exact HB.out | apply zasaj | apply zasah | apply zasai | refine zasag ?_ zasaz.out | refine zasag ?_ zasba.out) | exact HB.out))) : w.heap.size ≤ zasax)); have n9_ := zasap ((by rw [hg]; exact (below_size (by repeat (first | (with_reducible first | exact HB.out | apply zasaj | apply zasah | apply zasai | refine zasag ?_ zasaz.out | refine zasag ?_ zasba.out) | exact HB.out))) : w.heap.size ≤ zasax)); have n10_ := zasap ((by rw [hg]; exact Nat.ne_of_lt (blk_lt (g := zasay) (o := .cells #[.int .i64 t354, .bool t355, .int .i64 t356, .string t357, .slice Ao26 t358.length co26] 24 (0, 0)) (by (with_reducible repeat (first | refine zasad ?_ _ | refine zasaf ?_ | refine zasae ?_ _)); exact zasas.out)) : zasay ≠ zasax)); have n11_ := zasap ((by rw [hg]; exact Nat.ne_of_gt (blk_lt (g := zasay) (o := .cells #[.int .i64 t354, .bool t355, .int .i64 t356, .string t357, .slice Ao26 t358.length co26] 24 (0, 0)) (by (with_reducible repeat (first | refine zasad ?_ _ | refine zasaf ?_ | refine zasae ?_ _)); exact zasas.out)) : zasax ≠ zasay)); have n12_ := zasap ((by rw [hg]; exact Nat.ne_of_lt (blk_lt (g := zasaw) (o := .cells #[.int .i64 t366, .bool t367, .int .i64 t368, .string t369, .slice Ao33 t370.length co33] 36 (0, 0)) (by (with_reducible repeat (first | refine zasad ?_ _ | refine zasaf ?_ | refine zasae ?_ _)); exact zasat.out)) : zasaw ≠ zasax)); have n13_ := zasap ((by rw [hg]; exact Nat.ne_of_gt (blk_lt (g := zasaw) (o := .cells #[.int .i64 t366, .bool t367, .int .i64 t368, .string t369, .slice Ao33 t370.length co33] 36 (0, 0)) (by (with_reducible repeat (first | refine zasad ?_ _ | refine zasaf ?_ | refine zasae ?_ _)); exact zasat.out)) : zasax ≠ zasaw)); clear HO360; clear HO365; clear HO372; clear HO381; clear zasas; clear zasat; clear HB; have HO360 := n0_; have HO365 := n1_; have HO372 := n2_; have HO381 := n3_; have zasas := n4_; have zasat := n5_; have HB := n6_; have zasau := n7_; have zasdf := n8_; have zasbb := n9_; have zasbf := n10_; have zasbk := n11_; have zasbc := n12_; have zasbl := n13_; clear n0_ n1_ n2_ n3_ n4_ n5_ n6_ n7_ n8_ n9_ n10_ n11_ n12_ n13_; clear hb hbox hg; have hnb36 := zasbk.out; have hnc36 := zasbf.out; have hnb37 := zasbl.out; have hnc37 := zasbc.out; have zascj : w35.cell? ⟨zasax, 0, none⟩ = some (.int .i64 0) := (zasak zasau.out 0).trans rfl; have zasck : w35.cell? ⟨zasax, 1, none⟩ = some (.bool false) := (zasak zasau.out 1).trans rfl; have zascl : w35.cell? ⟨zasax, 2, none⟩ = some (.int .i64 0) := (zasak zasau.out 2).trans rfl; have zascm : w35.cell? ⟨zasax, 3, none⟩ = some (.string (⟨#[]⟩ : ByteArray)) := (zasak zasau.out 3).trans rfl; have zascn : w35.cell? ⟨zasax, 4, none⟩ = some (.slice none 0 0) := (zasak zasau.out 4).trans rfl; have zasco := zasal zasau.out 0; have zascp := zasal zasau.out 1; have zascq := zasal zasau.out 2; have zascr := zasal zasau.out 3; have zascs := zasal zasau.out 4; obtain ⟨Ao39, co39, eo39⟩ := Kd.R_slice HO381.out; subst eo39) | ((with_reducible refine gate_callee (f := 18) rfl ?_); refine goesL_ (some 32) rfl rfl Try.func18 (by kernel_rfl) rfl #[.slice A0 l0.length c0] rfl (by (try simp only [zasam, zasan, zasao]); first | done | rfl) ?_; (with_reducible refine (stowagelaw13_Refs.calls k _ _ l0 t384 _ ?side1 ?side2 A7.out).mono ?_); (case side1 => exact Kd.C_below HR0.out (by repeat (first | (with_reducible first | exact HB.out | apply zasaj | apply zasah | apply zasai | refine zasag ?_ zasaz.out | refine zasag ?_ zasba.out | refine zasag ?_ zasbb.out) | exact HB.out))); (case side2 => exact HC0.out); rintro e w40 ⟨v385, rfl, ho0, hb⟩; refine ⟨_, rfl, ?_⟩; have n0_ := zasap (Kd.R_below (by (with_reducible repeat (first | apply Kd.R_alloc | apply Kd.R_drewN | apply Kd.R_drew)); exact (Kd.R_mono (Kd.R_far (p := ⟨zasax, 4, none⟩) (Kd.R_far (p := ⟨zasax, 3, none⟩) (Kd.R_far (p := ⟨zasax, 2, none⟩) (Kd.R_far (p := ⟨zasax, 1, none⟩) (Kd.R_far (p := ⟨zasax, 0, none⟩) (Kd.R_types HO360.out zasau.out (by decide)) (fun _ hk => hk.2) (.int .i64 t375)) (fun _ hk => hk.2) (.bool t376)) (fun _ hk => hk.2) (.int .i64 t377)) (fun _ hk => hk.2) (.string t378)) (fun _ hk => hk.2) (.slice Ao39 t379.length co39)) (fun _ h_ => h_.1))) hb); have n1_ := zasap (Kd.S_elder' (by (with_reducible repeat (first | apply Kd.S_alloc | apply Kd.S_drewN | apply Kd.S_drew)); exact (Kd.S_mono (Kd.S_far (p := ⟨zasax, 4, none⟩) (Kd.S_far (p := ⟨zasax, 3, none⟩) (Kd.S_far (p := ⟨zasax, 2, none⟩) (Kd.S_far (p := ⟨zasax, 1, none⟩) (Kd.S_far (p := ⟨zasax, 0, none⟩) (Kd.S_types HO365.out zasau.out (by decide)) (fun _ hk => hk.2) (.int .i64 t375)) (fun _ hk => hk.2) (.bool t376)) (fun _ hk => hk.2) (.int .i64 t377)) (fun _ hk => hk.2) (.string t378)) (fun _ hk => hk.2) (.slice Ao39 t379.length co39)) (fun _ h_ => h_.1))) (Kd.S_base ho0) hb); have n2_ := zasap (Kd.V_elder' (by (with_reducible repeat (first | apply Kd.V_alloc | apply Kd.V_drewN | apply Kd.V_drew)); exact (Kd.V_mono (Kd.V_far (p := ⟨zasax, 4, none⟩) (Kd.V_far (p := ⟨zasax, 3, none⟩) (Kd.V_far (p := ⟨zasax, 2, none⟩) (Kd.V_far (p := ⟨zasax, 1, none⟩) (Kd.V_far (p := ⟨zasax, 0, none⟩) (Kd.V_mono HO372.out (fun k_ hk => (⟨hk, hk.2⟩ : _ ∧ k_ ≠ zasax))) (fun _ hk => hk.2) (.int .i64 t375)) (fun _ hk => hk.2) (.bool t376)) (fun _ hk => hk.2) (.int .i64 t377)) (fun _ hk => hk.2) (.string t378)) (fun _ hk => hk.2) (.slice Ao39 t379.length co39)) (fun _ h_ => h_.1))) (Kd.S_base ho0) hb); have n3_ := zasap (Kd.R_below (by (with_reducible repeat (first | apply Kd.R_alloc | apply Kd.R_drewN | apply Kd.R_drew)); exact (Kd.R_mono (Kd.R_far (p := ⟨zasax, 4, none⟩) (Kd.R_far (p := ⟨zasax, 3, none⟩) (Kd.R_far (p := ⟨zasax, 2, none⟩) (Kd.R_far (p := ⟨zasax, 1, none⟩) (Kd.R_far (p := ⟨zasax, 0, none⟩) (Kd.R_types HO381.out zasau.out (by decide)) (fun _ hk => hk.2) (.int .i64 t375)) (fun _ hk => hk.2) (.bool t376)) (fun _ hk => hk.2) (.int .i64 t377)) (fun _ hk => hk.2) (.string t378)) (fun _ hk => hk.2) (.slice Ao39 t379.length co39)) (fun _ h_ => h_.1))) hb); have n4_ := zasap (Kd.S_lower (Kd.S_newB (Kd.S_new' ho0 (Kd.S_lt (by (with_reducible repeat (first | apply Kd.S_alloc | apply Kd.S_drewN | apply Kd.S_drew)); exact (Kd.S_mono (Kd.S_far (p := ⟨zasax, 4, none⟩) (Kd.S_far (p := ⟨zasax, 3, none⟩) (Kd.S_far (p := ⟨zasax, 2, none⟩) (Kd.S_far (p := ⟨zasax, 1, none⟩) (Kd.S_far (p := ⟨zasax, 0, none⟩) (Kd.S_types HO365.out zasau.out (by decide)) (fun _ hk => hk.2) (.int .i64 t375)) (fun _ hk => hk.2) (.bool t376)) (fun _ hk => hk.2) (.int .i64 t377)) (fun _ hk => hk.2) (.string t378)) (fun _ hk => hk.2) (.slice Ao39 t379.length co39)) (fun _ h_ => h_.1))))) (g := zasaw) (o := .cells #[.int .i64 t366, .bool t367, .int .i64 t368, .string t369, .slice Ao33 t370.length co33] 36 (0, 0)) (by (with_reducible repeat (first | refine zasad ?_ _ | refine zasaf ?_ | refine zasae ?_ _)); refine blk_far ?_ zasbc.out _; (with_reducible repeat (first | refine zasad ?_ _ | refine zasaf ?_ | refine zasae ?_ _)); refine blk_far ?_ zasbc.out _; (with_reducible repeat (first | refine zasad ?_ _ | refine zasaf ?_ | refine zasae ?_ _)); refine blk_far ?_ zasbc.out _; (with_reducible repeat (first | refine zasad ?_ _ | refine zasaf ?_ | refine zasae ?_ _)); refine blk_far ?_ zasbc.out _; (with_reducible repeat (first | refine zasad ?_ _ | refine zasaf ?_ | refine zasae ?_ _)); refine blk_far ?_ zasbc.out _; (with_reducible repeat (first | refine zasad ?_ _ | refine zasaf ?_ | refine zasae ?_ _)); exact zasat.out)) (below_size (by repeat (first | (with_reducible first | exact HB.out | apply zasaj | apply zasah | apply zasai | refine zasag ?_ zasaz.out | refine zasag ?_ zasba.out | refine zasag ?_ zasbb.out) | exact HB.out)))); have n5_ := zasap (blk_below (g := zasay) (o := .cells #[.int .i64 t354, .bool t355, .int .i64 t356, .string t357, .slice Ao26 t358.length co26] 24 (0, 0)) (by (with_reducible repeat (first | refine zasad ?_ _ | refine zasaf ?_ | refine zasae ?_ _)); refine blk_far ?_ zasbf.out _; (with_reducible repeat (first | refine zasad ?_ _ | refine zasaf ?_ | refine zasae ?_ _)); refine blk_far ?_ zasbf.out _; (with_reducible repeat (first | refine zasad ?_ _ | refine zasaf ?_ | refine zasae ?_ _)); refine blk_far ?_ zasbf.out _; (with_reducible repeat (first | refine zasad ?_ _ | refine zasaf ?_ | refine zasae ?_ _)); refine blk_far ?_ zasbf.out _; (with_reducible repeat (first | refine zasad ?_ _ | refine zasaf ?_ | refine zasae ?_ _)); refine blk_far ?_ zasbf.out _; (with_reducible repeat (first | refine zasad ?_ _ | refine zasaf ?_ | refine zasae ?_ _)); exact zasas.out) hb); have n6_ := zasap (blk_below (g := zasaw) (o := .cells #[.int .i64 t366, .bool t367, .int .i64 t368, .string t369, .slice Ao33 t370.length co33] 36 (0, 0)) (by (with_reducible repeat (first | refine zasad ?_ _ | refine zasaf ?_ | refine zasae ?_ _)); refine blk_far ?_ zasbc.out _; (with_reducible repeat (first | refine zasad ?_ _ | refine zasaf ?_ | refine zasae ?_ _)); refine blk_far ?_ zasbc.out _; (with_reducible repeat (first | refine zasad ?_ _ | refine zasaf ?_ | refine zasae ?_ _)); refine blk_far ?_ zasbc.out _; (with_reducible repeat (first | refine zasad ?_ _ | refine zasaf ?_ | refine zasae ?_ _)); refine blk_far ?_ zasbc.out _; (with_reducible repeat (first | refine zasad ?_ _ | refine zasaf ?_ | refine zasae ?_ _)); refine blk_far ?_ zasbc.out _; (with_reducible repeat (first | refine zasad ?_ _ | refine zasaf ?_ | refine zasae ?_ _)); exact zasat.out) hb); have n7_ := zasap (blk_below (g := zasax) (o := .cells #[.int .i64 t375, .bool t376, .int .i64 t377, .string t378, .slice Ao39 t379.length co39] 24 (0, 0)) (by (with_reducible repeat (first | refine zasad ?_ _ | refine zasaf ?_ | refine zasae ?_ _)); refine blk_put (cs := #[.int .i64 t375, .bool t376, .int .i64 t377, .string t378, .slice none 0 0]) ?_ 4 _ rfl; (with_reducible repeat (first | refine zasad ?_ _ | refine zasaf ?_ | refine zasae ?_ _)); refine blk_put (cs := #[.int .i64 t375, .bool t376, .int .i64 t377, .string (⟨#[]⟩ : ByteArray), .slice none 0 0]) ?_ 3 _ rfl; (with_reducible repeat (first | refine zasad ?_ _ | refine zasaf ?_ | refine zasae ?_ _)); refine blk_put (cs := #[.int .i64 t375, .bool t376, .int .i64 0, .string (⟨#[]⟩ : ByteArray), .slice none 0 0]) ?_ 2 _ rfl; (with_reducible repeat (first | refine zasad ?_ _ | refine zasaf ?_ | refine zasae ?_ _)); refine blk_put (cs := #[.int .i64 t375, .bool false, .int .i64 0, .string (⟨#[]⟩ : ByteArray), .slice none 0 0]) ?_ 1 _ rfl; (with_reducible repeat (first | refine zasad ?_ _ | refine zasaf ?_ | refine zasae ?_ _)); refine blk_put (cs := #[.int .i64 0, .bool false, .int .i64 0, .string (⟨#[]⟩ : ByteArray), .slice none 0 0]) ?_ 0 _ rfl; (with_reducible repeat (first | refine zasad ?_ _ | refine zasaf ?_ | refine zasae ?_ _)); exact zasau.out) hb); have n8_ := zasap (below_step (by repeat (first | (with_reducible first | exact HB.out | apply zasaj | apply zasah | apply zasai | refine zasag ?_ zasaz.out | refine zasag ?_ zasba.out | refine zasag ?_ zasbb.out) | exact HB.out)) hb); clear HO360; clear HO365; clear HO372; clear HO381; clear zasas; clear zasat; clear zasau; clear HB; have HO360 := n0_; have HO365 := n1_; have HO372 := n2_; have HO381 := n3_; have HO386 := n4_; have zasas := n5_; have zasat := n6_; have zasau := n7_; have HB := n8_; clear n0_ n1_ n2_ n3_ n4_ n5_ n6_ n7_ n8_; (try clear hb); (try clear hk); (try clear hi); (try clear ho0); obtain ⟨Ao41, co41, eo41⟩ := Kd.S_slice HO386.out; subst eo41) | ((with_reducible refine gate_callee (f := 26) rfl ?_); refine goesL_ (some 34) rfl rfl Try.func26 (by kernel_rfl) rfl #[.slice Ao41 t384.length co41, .int .i64 a1] rfl (by (try simp only [zasam, zasan, zasao]); first | done | rfl) ?_; (with_reducible refine (stowageref13_Find.calls k (fun k_ => ((((((True ∧ some k_ ≠ (.slice Ao28 t363.length co28 : Value).ownBlock) ∧ k_ ≠ zasaw) ∧ some k_ ≠ (.slice Ao26 t358.length co26 : Value).ownBlock) ∧ some k_ ≠ (.slice Ao39 t379.length co39 : Value).ownBlock) ∧ k_ ≠ zasay) ∧ k_ ≠ zasax)) _ _ t384 a1 t387 t388 t389 t390 t391 t394 _ ?side1 A8.out).mono ?_); (case side1 => exact Kd.S_V (Kd.S_types (Kd.S_types (Kd.S_apart' (Kd.S_apart' (HO386.out) (Kd.R_typed HO360.out) (by decide)) (Kd.R_typed HO381.out) (by decide)) zasas.out (by decide)) zasau.out (by decide))); rintro e w42 ⟨v392, rfl, ho0, hb⟩; refine ⟨_, rfl, ?_⟩; have n0_ := zasap (Kd.R_below (by (with_reducible repeat (first | apply Kd.R_alloc | apply Kd.R_drewN | apply Kd.R_drew)); exact HO360.out) hb); have n1_ := zasap (Kd.S_below (by (with_reducible repeat (first | apply Kd.S_alloc | apply Kd.S_drewN | apply Kd.S_drew)); exact HO365.out) hb); have n2_ := zasap (Kd.V_below (by (with_reducible repeat (first | apply Kd.V_alloc | apply Kd.V_drewN | apply Kd.V_drew)); exact HO372.out) hb); have n3_ := zasap (Kd.R_below (by (with_reducible repeat (first | apply Kd.R_alloc | apply Kd.R_drewN | apply Kd.R_drew)); exact HO381.out) hb); have n4_ := zasap (Kd.S_below (by (with_reducible repeat (first | apply Kd.S_alloc | apply Kd.S_drewN | apply Kd.S_drew)); exact HO386.out) hb); have n5_ := zasap (Kd.V_lower (Kd.V_mono (ok' := fun k_ => some k_ ≠ (.slice Ao26 t358.length co26 : Value).ownBlock ∧ some k_ ≠ (.slice Ao28 t363.length co28 : Value).ownBlock ∧ some k_ ≠ (.slice Ao39 t379.length co39 : Value).ownBlock ∧ k_ ≠ zasay ∧ k_ ≠ zasaw ∧ k_ ≠ zasax) ho0 (fun k_ hk_ => ⟨Or.elim hk_ (fun hs_ => hs_.1.1.1.2) (fun hn_ => (Kd.fresh' (Kd.R_lt (by (with_reducible repeat (first | apply Kd.R_alloc | apply Kd.R_drewN | apply Kd.R_drew)); exact HO360.out)) k_ hn_)), Or.elim hk_ (fun hs_ => hs_.1.1.1.1.1.2) (fun hn_ => (Kd.fresh' (Kd.S_lt (by (with_reducible repeat (first | apply Kd.S_alloc | apply Kd.S_drewN | apply Kd.S_drew)); exact HO365.out)) k_ hn_)), Or.elim hk_ (fun hs_ => hs_.1.1.2) (fun hn_ => (Kd.fresh' (Kd.R_lt (by (with_reducible repeat (first | apply Kd.R_alloc | apply Kd.R_drewN | apply Kd.R_drew)); exact HO381.out)) k_ hn_)), Or.elim hk_ (fun hs_ => hs_.1.2) (fun hn_ => (Kd.freshB (g := zasay) (o := .cells #[.int .i64 t354, .bool t355, .int .i64 t356, .string t357, .slice Ao26 t358.length co26] 24 (0, 0)) (by (with_reducible repeat (first | refine zasad ?_ _ | refine zasaf ?_ | refine zasae ?_ _)); exact zasas.out) k_ hn_)), Or.elim hk_ (fun hs_ => hs_.1.1.1.1.2) (fun hn_ => (Kd.freshB (g := zasaw) (o := .cells #[.int .i64 t366, .bool t367, .int .i64 t368, .string t369, .slice Ao33 t370.length co33] 36 (0, 0)) (by (with_reducible repeat (first | refine zasad ?_ _ | refine zasaf ?_ | refine zasae ?_ _)); exact zasat.out) k_ hn_)), Or.elim hk_ (fun hs_ => hs_.2) (fun hn_ => (Kd.freshB (g := zasax) (o := .cells #[.int .i64 t375, .bool t376, .int .i64 t377, .string t378, .slice Ao39 t379.length co39] 24 (0, 0)) (by (with_reducible repeat (first | refine zasad ?_ _ | refine zasaf ?_ | refine zasae ?_ _)); exact zasau.out) k_ hn_))⟩)) (below_size (by repeat (first | (with_reducible first | exact HB.out | apply zasaj | apply zasah | apply zasai | refine zasag ?_ zasaz.out | refine zasag ?_ zasba.out | refine zasag ?_ zasbb.out) | exact HB.out)))); have n6_ := zasap (blk_below (g := zasay) (o := .cells #[.int .i64 t354, .bool t355, .int .i64 t356, .string t357, .slice Ao26 t358.length co26] 24 (0, 0)) (by (with_reducible repeat (first | refine zasad ?_ _ | refine zasaf ?_ | refine zasae ?_ _)); exact zasas.out) hb); have n7_ := zasap (blk_below (g := zasaw) (o := .cells #[.int .i64 t366, .bool t367, .int .i64 t368, .string t369, .slice Ao33 t370.length co33] 36 (0, 0)) (by (with_reducible repeat (first | refine zasad ?_ _ | refine zasaf ?_ | refine zasae ?_ _)); exact zasat.out) hb); have n8_ := zasap (blk_below (g := zasax) (o := .cells #[.int .i64 t375, .bool t376, .int .i64 t377, .string t378, .slice Ao39 t379.length co39] 24 (0, 0)) (by (with_reducible repeat (first | refine zasad ?_ _ | refine zasaf ?_ | refine zasae ?_ _)); exact zasau.out) hb); have n9_ := zasap (below_step (by repeat (first | (with_reducible first | exact HB.out | apply zasaj | apply zasah | apply zasai | refine zasag ?_ zasaz.out | refine zasag ?_ zasba.out | refine zasag ?_ zasbb.out) | exact HB.out)) hb); clear HO360; clear HO365; clear HO372; clear HO381; clear HO386; clear zasas; clear zasat; clear zasau; clear HB; have HO360 := n0_; have HO365 := n1_; have HO372 := n2_; have HO381 := n3_; have HO386 := n4_; have HO393 := n5_; have zasas := n6_; have zasat := n7_; have zasau := n8_; have HB := n9_; clear n0_ n1_ n2_ n3_ n4_ n5_ n6_ n7_ n8_ n9_; (try clear hb); (try clear hk); (try clear hi); (try clear ho0)) | ((with_reducible refine gate_dst (N := 11) rfl ?_); refine box_event ?hg (N := 11) ?hd (cs := #[.int .i64 0, .bool false, .int .i64 0, .string (⟨#[]⟩ : ByteArray), .slice none 0 0]) (t := 36) ?hr ?_; (case hd => rfl); (case hg => rfl); (case hr => first | (go_simp; done) | (go_simp; rfl)); intro zasar hg w43 hbox hb; have n0_ := zasap (Kd.R_below (by (with_reducible repeat (first | apply Kd.R_alloc | apply Kd.R_drewN | apply Kd.R_drew)); exact HO360.out) hb); have n1_ := zasap (Kd.S_below (Kd.S_elderB (by (with_reducible repeat (first | apply Kd.S_alloc | apply Kd.S_drewN | apply Kd.S_drew)); exact HO365.out) zasar (Nat.le_of_eq hg.symm)) hb); have n2_ := zasap (Kd.V_below (Kd.V_elderB (by (with_reducible repeat (first | apply Kd.V_alloc | apply Kd.V_drewN | apply Kd.V_drew)); exact HO372.out) zasar (Nat.le_of_eq hg.symm)) hb); have n3_ := zasap (Kd.R_below (by (with_reducible repeat (first | apply Kd.R_alloc | apply Kd.R_drewN | apply Kd.R_drew)); exact HO381.out) hb); have n4_ := zasap (Kd.S_below (Kd.S_elderB (by (with_reducible repeat (first | apply Kd.S_alloc | apply Kd.S_drewN | apply Kd.S_drew)); exact HO386.out) zasar (Nat.le_of_eq hg.symm)) hb); have n5_ := zasap (Kd.V_below (Kd.V_elderB (by (with_reducible repeat (first | apply Kd.V_alloc | apply Kd.V_drewN | apply Kd.V_drew)); exact HO393.out) zasar (Nat.le_of_eq hg.symm)) hb); have n6_ := zasap (blk_below (g := zasay) (o := .cells #[.int .i64 t354, .bool t355, .int .i64 t356, .string t357, .slice Ao26 t358.length co26] 24 (0, 0)) (by (with_reducible repeat (first | refine zasad ?_ _ | refine zasaf ?_ | refine zasae ?_ _)); exact zasas.out) hb); have n7_ := zasap (blk_below (g := zasaw) (o := .cells #[.int .i64 t366, .bool t367, .int .i64 t368, .string t369, .slice Ao33 t370.length co33] 36 (0, 0)) (by (with_reducible repeat (first | refine zasad ?_ _ | refine zasaf ?_ | refine zasae ?_ _)); exact zasat.out) hb); have n8_ := zasap (blk_below (g := zasax) (o := .cells #[.int .i64 t375, .bool t376, .int .i64 t377, .string t378, .slice Ao39 t379.length co39] 24 (0, 0)) (by (with_reducible repeat (first | refine zasad ?_ _ | refine zasaf ?_ | refine zasae ?_ _)); exact zasau.out) hb); have n9_ := zasap (below_step (by repeat (first | (with_reducible first | exact HB.out | apply zasaj | apply zasah | apply zasai | refine zasag ?_ zasaz.out | refine zasag ?_ zasba.out | refine zasag ?_ zasbb.out) | exact HB.out)) hb); have n10_ := zasap (hbox); have n11_ := zasap ((by rw [hg]; exact (below_size (by repeat (first | (with_reducible first | exact HB.out | apply zasaj | apply zasah | apply zasai | refine zasag ?_ zasaz.out | refine zasag ?_ zasba.out | refine zasag ?_ zasbb.out) | exact HB.out))) : w.heap.size ≤ zasar)); have n12_ := zasap ((by rw [hg]; exact (below_size (by repeat (first | (with_reducible first | exact HB.out | apply zasaj | apply zasah | apply zasai | refine zasag ?_ zasaz.out | refine zasag ?_ zasba.out | refine zasag ?_ zasbb.out) | exact HB.out))) : w.heap.size ≤ zasar)); have n13_ := zasap ((by rw [hg]; exact Nat.ne_of_lt (blk_lt (g := zasay) (o := .cells #[.int .i64 t354, .bool t355, .int .i64 t356, .string t357, .slice Ao26 t358.length co26] 24 (0, 0)) (by (with_reducible repeat (first | refine zasad ?_ _ | refine zasaf ?_ | refine zasae ?_ _)); exact zasas.out)) : zasay ≠ zasar)); have n14_ := zasap ((by rw [hg]; exact Nat.ne_of_gt (blk_lt (g := zasay) (o := .cells #[.int .i64 t354, .bool t355, .int .i64 t356, .string t357, .slice Ao26 t358.length co26] 24 (0, 0)) (by (with_reducible repeat (first | refine zasad ?_ _ | refine zasaf ?_ | refine zasae ?_ _)); exact zasas.out)) : zasar ≠ zasay)); have n15_ := zasap ((by rw [hg]; exact Nat.ne_of_lt (blk_lt (g := zasaw) (o := .cells #[.int .i64 t366, .bool t367, .int .i64 t368, .string t369, .slice Ao33 t370.length co33] 36 (0, 0)) (by (with_reducible repeat (first | refine zasad ?_ _ | refine zasaf ?_ | refine zasae ?_ _)); exact zasat.out)) : zasaw ≠ zasar)); have n16_ := zasap ((by rw [hg]; exact Nat.ne_of_gt (blk_lt (g := zasaw) (o := .cells #[.int .i64 t366, .bool t367, .int .i64 t368, .string t369, .slice Ao33 t370.length co33] 36 (0, 0)) (by (with_reducible repeat (first | refine zasad ?_ _ | refine zasaf ?_ | refine zasae ?_ _)); exact zasat.out)) : zasar ≠ zasaw)); have n17_ := zasap ((by rw [hg]; exact Nat.ne_of_lt (blk_lt (g := zasax) (o := .cells #[.int .i64 t375, .bool t376, .int .i64 t377, .string t378, .slice Ao39 t379.length co39] 24 (0, 0)) (by (with_reducible repeat (first | refine zasad ?_ _ | refine zasaf ?_ | refine zasae ?_ _)); exact zasau.out)) : zasax ≠ zasar)); have n18_ := zasap ((by rw [hg]; exact Nat.ne_of_gt (blk_lt (g := zasax) (o := .cells #[.int .i64 t375, .bool t376, .int .i64 t377, .string t378, .slice Ao39 t379.length co39] 24 (0, 0)) (by (with_reducible repeat (first | refine zasad ?_ _ | refine zasaf ?_ | refine zasae ?_ _)); exact zasau.out)) : zasar ≠ zasax)); clear HO360; clear HO365; clear HO372; clear HO381; clear HO386; clear HO393; clear zasas; clear zasat; clear zasau; clear HB; have HO360 := n0_; have HO365 := n1_; have HO372 := n2_; have HO381 := n3_; have HO386 := n4_; have HO393 := n5_; have zasas := n6_; have zasat := n7_; have zasau := n8_; have HB := n9_; have zasav := n10_; have zasdg := n11_; have zasbd := n12_; have zasbg := n13_; have zasbm := n14_; have zasbh := n15_; have zasbn := n16_; have zasbi := n17_; have zasbo := n18_; clear n0_ n1_ n2_ n3_ n4_ n5_ n6_ n7_ n8_ n9_ n10_ n11_ n12_ n13_ n14_ n15_ n16_ n17_ n18_; clear hb hbox hg; have hnb44 := zasbm.out; have hnc44 := zasbg.out; have hnb45 := zasbn.out; have hnc45 := zasbh.out; have hnb46 := zasbo.out; have hnc46 := zasbi.out; have zasct : w43.cell? ⟨zasar, 0, none⟩ = some (.int .i64 0) := (zasak zasav.out 0).trans rfl; have zascu : w43.cell? ⟨zasar, 1, none⟩ = some (.bool false) := (zasak zasav.out 1).trans rfl; have zascv : w43.cell? ⟨zasar, 2, none⟩ = some (.int .i64 0) := (zasak zasav.out 2).trans rfl; have zascw : w43.cell? ⟨zasar, 3, none⟩ = some (.string (⟨#[]⟩ : ByteArray)) := (zasak zasav.out 3).trans rfl; have zascx : w43.cell? ⟨zasar, 4, none⟩ = some (.slice none 0 0) := (zasak zasav.out 4).trans rfl; have zascy := zasal zasav.out 0; have zascz := zasal zasav.out 1; have zasda := zasal zasav.out 2; have zasdb := zasal zasav.out 3; have zasdc := zasal zasav.out 4; obtain ⟨Ao48, co48, eo48⟩ := Kd.V_slice HO393.out; subst eo48))
      have n0_ : Aside0 (Kd.R k72 72 (((((w43.setCell ⟨zasar, 0, none⟩ (.int .i64 t387)).setCell ⟨zasar, 1, none⟩ (.bool t388)).setCell ⟨zasar, 2, none⟩ (.int .i64 t389)).setCell ⟨zasar, 3, none⟩ (.string t390)).setCell ⟨zasar, 4, none⟩ (.slice Ao48 t391.length co48)) w.heap.size (fun k_ => some k_ ≠ (.slice Ao39 t379.length co39 : Value).ownBlock) (.slice Ao26 t358.length co26) t358) := ⟨by (with_reducible repeat (first | apply Kd.R_alloc | apply Kd.R_drewN | apply Kd.R_drew)); exact Kd.R_mono (Kd.R_far (p := ⟨zasar, 4, none⟩) (Kd.R_far (p := ⟨zasar, 3, none⟩) (Kd.R_far (p := ⟨zasar, 2, none⟩) (Kd.R_far (p := ⟨zasar, 1, none⟩) (Kd.R_far (p := ⟨zasar, 0, none⟩) (Kd.R_types HO360.out zasav.out (by decide)) (fun _ hk => hk.2) (.int .i64 t387)) (fun _ hk => hk.2) (.bool t388)) (fun _ hk => hk.2) (.int .i64 t389)) (fun _ hk => hk.2) (.string t390)) (fun _ hk => hk.2) (.slice Ao48 t391.length co48)) (fun _ hk => hk.1.2)⟩
      have n1_ : Aside0 (Kd.S k36 36 (((((w43.setCell ⟨zasar, 0, none⟩ (.int .i64 t387)).setCell ⟨zasar, 1, none⟩ (.bool t388)).setCell ⟨zasar, 2, none⟩ (.int .i64 t389)).setCell ⟨zasar, 3, none⟩ (.string t390)).setCell ⟨zasar, 4, none⟩ (.slice Ao48 t391.length co48)) w.heap.size (fun k_ => some k_ ≠ (.slice Ao41 t384.length co41 : Value).ownBlock ∧ k_ ≠ zasaw ∧ k_ ≠ zasar) (.slice Ao28 t363.length co28) t363) := ⟨by (with_reducible repeat (first | apply Kd.S_alloc | apply Kd.S_drewN | apply Kd.S_drew)); exact Kd.S_mono (Kd.S_far (p := ⟨zasar, 4, none⟩) (Kd.S_far (p := ⟨zasar, 3, none⟩) (Kd.S_far (p := ⟨zasar, 2, none⟩) (Kd.S_far (p := ⟨zasar, 1, none⟩) (Kd.S_far (p := ⟨zasar, 0, none⟩) (Kd.S_mono HO365.out (fun k_ hk => (⟨hk, hk.2⟩ : _ ∧ k_ ≠ zasar))) (fun _ hk => hk.2) (.int .i64 t387)) (fun _ hk => hk.2) (.bool t388)) (fun _ hk => hk.2) (.int .i64 t389)) (fun _ hk => hk.2) (.string t390)) (fun _ hk => hk.2) (.slice Ao48 t391.length co48)) (fun _ hk => ⟨hk.1.1.2, ⟨hk.1.1.1.2, hk.1.2⟩⟩)⟩
      have n2_ : Aside0 (Kd.V k74 74 (((((w43.setCell ⟨zasar, 0, none⟩ (.int .i64 t387)).setCell ⟨zasar, 1, none⟩ (.bool t388)).setCell ⟨zasar, 2, none⟩ (.int .i64 t389)).setCell ⟨zasar, 3, none⟩ (.string t390)).setCell ⟨zasar, 4, none⟩ (.slice Ao48 t391.length co48)) w.heap.size (fun k_ => some k_ ≠ (.slice Ao26 t358.length co26 : Value).ownBlock ∧ some k_ ≠ (.slice Ao39 t379.length co39 : Value).ownBlock ∧ some k_ ≠ (.slice Ao41 t384.length co41 : Value).ownBlock ∧ k_ ≠ zasay ∧ k_ ≠ zasaw ∧ k_ ≠ zasax ∧ k_ ≠ zasar) (.slice Ao33 t370.length co33) t370) := ⟨by (with_reducible repeat (first | apply Kd.V_alloc | apply Kd.V_drewN | apply Kd.V_drew)); exact Kd.V_mono (Kd.V_far (p := ⟨zasar, 4, none⟩) (Kd.V_far (p := ⟨zasar, 3, none⟩) (Kd.V_far (p := ⟨zasar, 2, none⟩) (Kd.V_far (p := ⟨zasar, 1, none⟩) (Kd.V_far (p := ⟨zasar, 0, none⟩) (Kd.V_mono HO372.out (fun k_ hk => (⟨hk, hk.2⟩ : _ ∧ k_ ≠ zasar))) (fun _ hk => hk.2) (.int .i64 t387)) (fun _ hk => hk.2) (.bool t388)) (fun _ hk => hk.2) (.int .i64 t389)) (fun _ hk => hk.2) (.string t390)) (fun _ hk => hk.2) (.slice Ao48 t391.length co48)) (fun _ hk => ⟨hk.1.1.1.1.1.1.1, ⟨hk.1.1.1.1.2, ⟨hk.1.1.2, ⟨hk.1.1.1.1.1.1.2, ⟨hk.1.1.1.1.1.2, ⟨hk.1.1.1.2, hk.1.2⟩⟩⟩⟩⟩⟩)⟩
      have n3_ : Aside0 (Kd.R k72 72 (((((w43.setCell ⟨zasar, 0, none⟩ (.int .i64 t387)).setCell ⟨zasar, 1, none⟩ (.bool t388)).setCell ⟨zasar, 2, none⟩ (.int .i64 t389)).setCell ⟨zasar, 3, none⟩ (.string t390)).setCell ⟨zasar, 4, none⟩ (.slice Ao48 t391.length co48)) w.heap.size (fun k_ => some k_ ≠ (.slice Ao26 t358.length co26 : Value).ownBlock) (.slice Ao39 t379.length co39) t379) := ⟨by (with_reducible repeat (first | apply Kd.R_alloc | apply Kd.R_drewN | apply Kd.R_drew)); exact Kd.R_mono (Kd.R_far (p := ⟨zasar, 4, none⟩) (Kd.R_far (p := ⟨zasar, 3, none⟩) (Kd.R_far (p := ⟨zasar, 2, none⟩) (Kd.R_far (p := ⟨zasar, 1, none⟩) (Kd.R_far (p := ⟨zasar, 0, none⟩) (Kd.R_types HO381.out zasav.out (by decide)) (fun _ hk => hk.2) (.int .i64 t387)) (fun _ hk => hk.2) (.bool t388)) (fun _ hk => hk.2) (.int .i64 t389)) (fun _ hk => hk.2) (.string t390)) (fun _ hk => hk.2) (.slice Ao48 t391.length co48)) (fun _ hk => hk.1.2)⟩
      have n4_ : Aside0 (Kd.S k36 36 (((((w43.setCell ⟨zasar, 0, none⟩ (.int .i64 t387)).setCell ⟨zasar, 1, none⟩ (.bool t388)).setCell ⟨zasar, 2, none⟩ (.int .i64 t389)).setCell ⟨zasar, 3, none⟩ (.string t390)).setCell ⟨zasar, 4, none⟩ (.slice Ao48 t391.length co48)) w.heap.size (fun k_ => some k_ ≠ (.slice Ao28 t363.length co28 : Value).ownBlock ∧ k_ ≠ zasaw ∧ k_ ≠ zasar) (.slice Ao41 t384.length co41) t384) := ⟨by (with_reducible repeat (first | apply Kd.S_alloc | apply Kd.S_drewN | apply Kd.S_drew)); exact Kd.S_mono (Kd.S_far (p := ⟨zasar, 4, none⟩) (Kd.S_far (p := ⟨zasar, 3, none⟩) (Kd.S_far (p := ⟨zasar, 2, none⟩) (Kd.S_far (p := ⟨zasar, 1, none⟩) (Kd.S_far (p := ⟨zasar, 0, none⟩) (Kd.S_mono HO386.out (fun k_ hk => (⟨hk, hk.2⟩ : _ ∧ k_ ≠ zasar))) (fun _ hk => hk.2) (.int .i64 t387)) (fun _ hk => hk.2) (.bool t388)) (fun _ hk => hk.2) (.int .i64 t389)) (fun _ hk => hk.2) (.string t390)) (fun _ hk => hk.2) (.slice Ao48 t391.length co48)) (fun _ hk => ⟨hk.1.1.1.2, ⟨hk.1.1.2, hk.1.2⟩⟩)⟩
      have n5_ : Aside0 (Kd.V k74 74 (((((w43.setCell ⟨zasar, 0, none⟩ (.int .i64 t387)).setCell ⟨zasar, 1, none⟩ (.bool t388)).setCell ⟨zasar, 2, none⟩ (.int .i64 t389)).setCell ⟨zasar, 3, none⟩ (.string t390)).setCell ⟨zasar, 4, none⟩ (.slice Ao48 t391.length co48)) w.heap.size (fun k_ => some k_ ≠ (.slice Ao26 t358.length co26 : Value).ownBlock ∧ some k_ ≠ (.slice Ao28 t363.length co28 : Value).ownBlock ∧ some k_ ≠ (.slice Ao39 t379.length co39 : Value).ownBlock ∧ k_ ≠ zasay ∧ k_ ≠ zasaw ∧ k_ ≠ zasax ∧ k_ ≠ zasar) (.slice Ao48 t391.length co48) t391) := ⟨by (with_reducible repeat (first | apply Kd.V_alloc | apply Kd.V_drewN | apply Kd.V_drew)); exact Kd.V_mono (Kd.V_far (p := ⟨zasar, 4, none⟩) (Kd.V_far (p := ⟨zasar, 3, none⟩) (Kd.V_far (p := ⟨zasar, 2, none⟩) (Kd.V_far (p := ⟨zasar, 1, none⟩) (Kd.V_far (p := ⟨zasar, 0, none⟩) (Kd.V_mono HO393.out (fun k_ hk => (⟨hk, hk.2⟩ : _ ∧ k_ ≠ zasar))) (fun _ hk => hk.2) (.int .i64 t387)) (fun _ hk => hk.2) (.bool t388)) (fun _ hk => hk.2) (.int .i64 t389)) (fun _ hk => hk.2) (.string t390)) (fun _ hk => hk.2) (.slice Ao48 t391.length co48)) (fun _ hk => ⟨hk.1.1.1, ⟨hk.1.1.2.1, ⟨hk.1.1.2.2.1, ⟨hk.1.1.2.2.2.1, ⟨hk.1.1.2.2.2.2.1, ⟨hk.1.1.2.2.2.2.2, hk.1.2⟩⟩⟩⟩⟩⟩)⟩
      have n6_ : Aside0 ((((((w43.setCell ⟨zasar, 0, none⟩ (.int .i64 t387)).setCell ⟨zasar, 1, none⟩ (.bool t388)).setCell ⟨zasar, 2, none⟩ (.int .i64 t389)).setCell ⟨zasar, 3, none⟩ (.string t390)).setCell ⟨zasar, 4, none⟩ (.slice Ao48 t391.length co48)).heap[zasay]? = some (.cells #[.int .i64 t354, .bool t355, .int .i64 t356, .string t357, .slice Ao26 t358.length co26] 24 (0, 0))) := ⟨by (with_reducible repeat (first | refine zasad ?_ _ | refine zasaf ?_ | refine zasae ?_ _)); refine blk_far ?_ zasbg.out _; (with_reducible repeat (first | refine zasad ?_ _ | refine zasaf ?_ | refine zasae ?_ _)); refine blk_far ?_ zasbg.out _; (with_reducible repeat (first | refine zasad ?_ _ | refine zasaf ?_ | refine zasae ?_ _)); refine blk_far ?_ zasbg.out _; (with_reducible repeat (first | refine zasad ?_ _ | refine zasaf ?_ | refine zasae ?_ _)); refine blk_far ?_ zasbg.out _; (with_reducible repeat (first | refine zasad ?_ _ | refine zasaf ?_ | refine zasae ?_ _)); refine blk_far ?_ zasbg.out _; (with_reducible repeat (first | refine zasad ?_ _ | refine zasaf ?_ | refine zasae ?_ _)); exact zasas.out⟩
      have n7_ : Aside0 ((((((w43.setCell ⟨zasar, 0, none⟩ (.int .i64 t387)).setCell ⟨zasar, 1, none⟩ (.bool t388)).setCell ⟨zasar, 2, none⟩ (.int .i64 t389)).setCell ⟨zasar, 3, none⟩ (.string t390)).setCell ⟨zasar, 4, none⟩ (.slice Ao48 t391.length co48)).heap[zasaw]? = some (.cells #[.int .i64 t366, .bool t367, .int .i64 t368, .string t369, .slice Ao33 t370.length co33] 36 (0, 0))) := ⟨by (with_reducible repeat (first | refine zasad ?_ _ | refine zasaf ?_ | refine zasae ?_ _)); refine blk_far ?_ zasbh.out _; (with_reducible repeat (first | refine zasad ?_ _ | refine zasaf ?_ | refine zasae ?_ _)); refine blk_far ?_ zasbh.out _; (with_reducible repeat (first | refine zasad ?_ _ | refine zasaf ?_ | refine zasae ?_ _)); refine blk_far ?_ zasbh.out _; (with_reducible repeat (first | refine zasad ?_ _ | refine zasaf ?_ | refine zasae ?_ _)); refine blk_far ?_ zasbh.out _; (with_reducible repeat (first | refine zasad ?_ _ | refine zasaf ?_ | refine zasae ?_ _)); refine blk_far ?_ zasbh.out _; (with_reducible repeat (first | refine zasad ?_ _ | refine zasaf ?_ | refine zasae ?_ _)); exact zasat.out⟩
      have n8_ : Aside0 ((((((w43.setCell ⟨zasar, 0, none⟩ (.int .i64 t387)).setCell ⟨zasar, 1, none⟩ (.bool t388)).setCell ⟨zasar, 2, none⟩ (.int .i64 t389)).setCell ⟨zasar, 3, none⟩ (.string t390)).setCell ⟨zasar, 4, none⟩ (.slice Ao48 t391.length co48)).heap[zasax]? = some (.cells #[.int .i64 t375, .bool t376, .int .i64 t377, .string t378, .slice Ao39 t379.length co39] 24 (0, 0))) := ⟨by (with_reducible repeat (first | refine zasad ?_ _ | refine zasaf ?_ | refine zasae ?_ _)); refine blk_far ?_ zasbi.out _; (with_reducible repeat (first | refine zasad ?_ _ | refine zasaf ?_ | refine zasae ?_ _)); refine blk_far ?_ zasbi.out _; (with_reducible repeat (first | refine zasad ?_ _ | refine zasaf ?_ | refine zasae ?_ _)); refine blk_far ?_ zasbi.out _; (with_reducible repeat (first | refine zasad ?_ _ | refine zasaf ?_ | refine zasae ?_ _)); refine blk_far ?_ zasbi.out _; (with_reducible repeat (first | refine zasad ?_ _ | refine zasaf ?_ | refine zasae ?_ _)); refine blk_far ?_ zasbi.out _; (with_reducible repeat (first | refine zasad ?_ _ | refine zasaf ?_ | refine zasae ?_ _)); exact zasau.out⟩
      have n9_ : Aside0 ((((((w43.setCell ⟨zasar, 0, none⟩ (.int .i64 t387)).setCell ⟨zasar, 1, none⟩ (.bool t388)).setCell ⟨zasar, 2, none⟩ (.int .i64 t389)).setCell ⟨zasar, 3, none⟩ (.string t390)).setCell ⟨zasar, 4, none⟩ (.slice Ao48 t391.length co48)).heap[zasar]? = some (.cells #[.int .i64 t387, .bool t388, .int .i64 t389, .string t390, .slice Ao48 t391.length co48] 36 (0, 0))) := ⟨by (with_reducible repeat (first | refine zasad ?_ _ | refine zasaf ?_ | refine zasae ?_ _)); refine blk_put (cs := #[.int .i64 t387, .bool t388, .int .i64 t389, .string t390, .slice none 0 0]) ?_ 4 _ rfl; (with_reducible repeat (first | refine zasad ?_ _ | refine zasaf ?_ | refine zasae ?_ _)); refine blk_put (cs := #[.int .i64 t387, .bool t388, .int .i64 t389, .string (⟨#[]⟩ : ByteArray), .slice none 0 0]) ?_ 3 _ rfl; (with_reducible repeat (first | refine zasad ?_ _ | refine zasaf ?_ | refine zasae ?_ _)); refine blk_put (cs := #[.int .i64 t387, .bool t388, .int .i64 0, .string (⟨#[]⟩ : ByteArray), .slice none 0 0]) ?_ 2 _ rfl; (with_reducible repeat (first | refine zasad ?_ _ | refine zasaf ?_ | refine zasae ?_ _)); refine blk_put (cs := #[.int .i64 t387, .bool false, .int .i64 0, .string (⟨#[]⟩ : ByteArray), .slice none 0 0]) ?_ 1 _ rfl; (with_reducible repeat (first | refine zasad ?_ _ | refine zasaf ?_ | refine zasae ?_ _)); refine blk_put (cs := #[.int .i64 0, .bool false, .int .i64 0, .string (⟨#[]⟩ : ByteArray), .slice none 0 0]) ?_ 0 _ rfl; (with_reducible repeat (first | refine zasad ?_ _ | refine zasaf ?_ | refine zasae ?_ _)); exact zasav.out⟩
      have n10_ : Aside0 (Below w.heap.size w (((((w43.setCell ⟨zasar, 0, none⟩ (.int .i64 t387)).setCell ⟨zasar, 1, none⟩ (.bool t388)).setCell ⟨zasar, 2, none⟩ (.int .i64 t389)).setCell ⟨zasar, 3, none⟩ (.string t390)).setCell ⟨zasar, 4, none⟩ (.slice Ao48 t391.length co48))) := ⟨by repeat (first | (with_reducible first | exact HB.out | apply zasaj | apply zasah | apply zasai | refine zasag ?_ zasaz.out | refine zasag ?_ zasba.out | refine zasag ?_ zasbb.out | refine zasag ?_ zasbd.out) | exact HB.out)⟩
      (try clear HO360)
      (try clear HO365)
      (try clear HO372)
      (try clear HO381)
      (try clear HO386)
      (try clear HO393)
      (try clear zasas)
      (try clear zasat)
      (try clear zasau)
      (try clear zasav)
      (try clear HB)
      generalize (((((w43.setCell ⟨zasar, 0, none⟩ (.int .i64 t387)).setCell ⟨zasar, 1, none⟩ (.bool t388)).setCell ⟨zasar, 2, none⟩ (.int .i64 t389)).setCell ⟨zasar, 3, none⟩ (.string t390)).setCell ⟨zasar, 4, none⟩ (.slice Ao48 t391.length co48)) = w49 at n0_ n1_ n2_ n3_ n4_ n5_ n6_ n7_ n8_ n9_ n10_ ⊢
      have HO360 := n0_
      have HO365 := n1_
      have HO372 := n2_
      have HO381 := n3_
      have HO386 := n4_
      have HO393 := n5_
      have zasas := n6_
      have zasat := n7_
      have zasau := n8_
      have zasav := n9_
      have HB := n10_
      clear n0_ n1_ n2_ n3_ n4_ n5_ n6_ n7_ n8_ n9_ n10_
      have n0_ := zasap (Kd.R_drew HO360.out)
      have n1_ := zasap (Kd.S_drew HO365.out)
      have n2_ := zasap (Kd.V_drew HO372.out)
      have n3_ := zasap (Kd.R_drew HO381.out)
      have n4_ := zasap (Kd.S_drew HO386.out)
      have n5_ := zasap (Kd.V_drew HO393.out)
      have n6_ := zasap (zasaf zasas.out)
      have n7_ := zasap (zasaf zasat.out)
      have n8_ := zasap (zasaf zasau.out)
      have n9_ := zasap (zasaf zasav.out)
      have n10_ := zasap (zasai HB.out)
      clear HO360
      clear HO365
      clear HO372
      clear HO381
      clear HO386
      clear HO393
      clear zasas
      clear zasat
      clear zasau
      clear zasav
      clear HB
      have HO360 := n0_
      have HO365 := n1_
      have HO372 := n2_
      have HO381 := n3_
      have HO386 := n4_
      have HO393 := n5_
      have zasas := n6_
      have zasat := n7_
      have zasau := n8_
      have zasav := n9_
      have HB := n10_
      clear n0_ n1_ n2_ n3_ n4_ n5_ n6_ n7_ n8_ n9_ n10_
      refine start_ (n := 32) (S := fun w' => w'.cell? ⟨zasay, 0, none⟩ = some (.int .i64 t354) ∧ w'.cell? ⟨zasay, 1, none⟩ = some (.bool t355) ∧ w'.cell? ⟨zasay, 2, none⟩ = some (.int .i64 t356) ∧ w'.cell? ⟨zasay, 3, none⟩ = some (.string t357) ∧ w'.cell? ⟨zasay, 4, none⟩ = some (.slice Ao26 t358.length co26) ∧ w'.cell? ⟨zasaw, 0, none⟩ = some (.int .i64 t366) ∧ w'.cell? ⟨zasaw, 1, none⟩ = some (.bool t367) ∧ w'.cell? ⟨zasaw, 2, none⟩ = some (.int .i64 t368) ∧ w'.cell? ⟨zasaw, 3, none⟩ = some (.string t369) ∧ w'.cell? ⟨zasaw, 4, none⟩ = some (.slice Ao33 t370.length co33) ∧ w'.cell? ⟨zasax, 0, none⟩ = some (.int .i64 t375) ∧ w'.cell? ⟨zasax, 1, none⟩ = some (.bool t376) ∧ w'.cell? ⟨zasax, 2, none⟩ = some (.int .i64 t377) ∧ w'.cell? ⟨zasax, 3, none⟩ = some (.string t378) ∧ w'.cell? ⟨zasax, 4, none⟩ = some (.slice Ao39 t379.length co39) ∧ w'.cell? ⟨zasar, 0, none⟩ = some (.int .i64 t387) ∧ w'.cell? ⟨zasar, 1, none⟩ = some (.bool t388) ∧ w'.cell? ⟨zasar, 2, none⟩ = some (.int .i64 t389) ∧ w'.cell? ⟨zasar, 3, none⟩ = some (.string t390) ∧ w'.cell? ⟨zasar, 4, none⟩ = some (.slice Ao48 t391.length co48)) (ds := []) zassq0 (by kernel_rfl) rfl rfl ⟨(zasak zasas.out 0).trans rfl, (zasak zasas.out 1).trans rfl, (zasak zasas.out 2).trans rfl, (zasak zasas.out 3).trans rfl, (zasak zasas.out 4).trans rfl, (zasak zasat.out 0).trans rfl, (zasak zasat.out 1).trans rfl, (zasak zasat.out 2).trans rfl, (zasak zasat.out 3).trans rfl, (zasak zasat.out 4).trans rfl, (zasak zasau.out 0).trans rfl, (zasak zasau.out 1).trans rfl, (zasak zasau.out 2).trans rfl, (zasak zasau.out 3).trans rfl, (zasak zasau.out 4).trans rfl, (zasak zasav.out 0).trans rfl, (zasak zasav.out 1).trans rfl, (zasak zasav.out 2).trans rfl, (zasak zasav.out 3).trans rfl, (zasak zasav.out 4).trans rfl⟩ (fun hHeld => ?_); refine with_tabW stowagelaw13_ChainFinds.tab5 stowagelaw13_ChainFinds.bits5 (fun HT_ HW_ => ?_)
      generalize w49.drew = w50 at HO360 HO365 HO372 HO381 HO386 HO393 zasas zasat zasau zasav HB hHeld ⊢
      refine one_ (i := 0) (N := some 37) zassq1 rfl rfl (one_of HT_.out (by kernel_rfl)) (by decide) (fun K hK => ?_)
      refine goes_ Try.func12 (by kernel_rfl) rfl #[] (by rfl) rfl rfl (by (try simp only [zasam, zasan, zasao]); first | done | rfl) ?_
      with_reducible refine (stowagelaw13_awake.calls k  true _ A9.out).mono ?_
      rintro e w51 ⟨rfl, hb⟩
      refine ⟨_, rfl, ?_⟩
      have n0_ := zasap (Kd.R_below (by (with_reducible repeat (first | apply Kd.R_alloc | apply Kd.R_drewN | apply Kd.R_drew)); exact HO360.out) hb)
      have n1_ := zasap (Kd.S_below (by (with_reducible repeat (first | apply Kd.S_alloc | apply Kd.S_drewN | apply Kd.S_drew)); exact HO365.out) hb)
      have n2_ := zasap (Kd.V_below (by (with_reducible repeat (first | apply Kd.V_alloc | apply Kd.V_drewN | apply Kd.V_drew)); exact HO372.out) hb)
      have n3_ := zasap (Kd.R_below (by (with_reducible repeat (first | apply Kd.R_alloc | apply Kd.R_drewN | apply Kd.R_drew)); exact HO381.out) hb)
      have n4_ := zasap (Kd.S_below (by (with_reducible repeat (first | apply Kd.S_alloc | apply Kd.S_drewN | apply Kd.S_drew)); exact HO386.out) hb)
      have n5_ := zasap (Kd.V_below (by (with_reducible repeat (first | apply Kd.V_alloc | apply Kd.V_drewN | apply Kd.V_drew)); exact HO393.out) hb)
      have n6_ := zasap (blk_below (g := zasay) (o := .cells #[.int .i64 t354, .bool t355, .int .i64 t356, .string t357, .slice Ao26 t358.length co26] 24 (0, 0)) (by (with_reducible repeat (first | refine zasad ?_ _ | refine zasaf ?_ | refine zasae ?_ _)); exact zasas.out) hb)
      have n7_ := zasap (blk_below (g := zasaw) (o := .cells #[.int .i64 t366, .bool t367, .int .i64 t368, .string t369, .slice Ao33 t370.length co33] 36 (0, 0)) (by (with_reducible repeat (first | refine zasad ?_ _ | refine zasaf ?_ | refine zasae ?_ _)); exact zasat.out) hb)
      have n8_ := zasap (blk_below (g := zasax) (o := .cells #[.int .i64 t375, .bool t376, .int .i64 t377, .string t378, .slice Ao39 t379.length co39] 24 (0, 0)) (by (with_reducible repeat (first | refine zasad ?_ _ | refine zasaf ?_ | refine zasae ?_ _)); exact zasau.out) hb)
      have n9_ := zasap (blk_below (g := zasar) (o := .cells #[.int .i64 t387, .bool t388, .int .i64 t389, .string t390, .slice Ao48 t391.length co48] 36 (0, 0)) (by (with_reducible repeat (first | refine zasad ?_ _ | refine zasaf ?_ | refine zasae ?_ _)); exact zasav.out) hb)
      have n10_ := zasap (below_step (by repeat (first | (with_reducible first | exact HB.out | apply zasaj | apply zasah | apply zasai | refine zasag ?_ zasaz.out | refine zasag ?_ zasba.out | refine zasag ?_ zasbb.out | refine zasag ?_ zasbd.out) | exact HB.out)) hb)
      clear HO360
      clear HO365
      clear HO372
      clear HO381
      clear HO386
      clear HO393
      clear zasas
      clear zasat
      clear zasau
      clear zasav
      clear HB
      have HO360 := n0_
      have HO365 := n1_
      have HO372 := n2_
      have HO381 := n3_
      have HO386 := n4_
      have HO393 := n5_
      have zasas := n6_
      have zasat := n7_
      have zasau := n8_
      have zasav := n9_
      have HB := n10_
      clear n0_ n1_ n2_ n3_ n4_ n5_ n6_ n7_ n8_ n9_ n10_
      (try clear hb)
      (try clear hb2)
      (try clear hk)
      (try clear hi)
      refine hK.out _ _ ⟨(zasak zasas.out 0).trans rfl, (zasak zasas.out 1).trans rfl, (zasak zasas.out 2).trans rfl, (zasak zasas.out 3).trans rfl, (zasak zasas.out 4).trans rfl, (zasak zasat.out 0).trans rfl, (zasak zasat.out 1).trans rfl, (zasak zasat.out 2).trans rfl, (zasak zasat.out 3).trans rfl, (zasak zasat.out 4).trans rfl, (zasak zasau.out 0).trans rfl, (zasak zasau.out 1).trans rfl, (zasak zasau.out 2).trans rfl, (zasak zasau.out 3).trans rfl, (zasak zasau.out 4).trans rfl, (zasak zasav.out 0).trans rfl, (zasak zasav.out 1).trans rfl, (zasak zasav.out 2).trans rfl, (zasak zasav.out 3).trans rfl, (zasak zasav.out 4).trans rfl⟩ (fun hHeld => ?_)
      clear hK K
      refine norm_ (a' := ?_) ?_ ?_
      rotate_left
      ·show Act.put _ (some 37) _ = _
       simp only [Act.put, zasaa, zasab, zasac, i64_w, i32_w]
       rfl
      refine pure_ (i := 1) (N := some 38) (v := ?_) (a' := ?_) zassq2 rfl rfl (any_of HT_.out (by kernel_rfl)) (fun _ _ _ h => h) (Or.inl ⟨by rfl, ?_⟩) ?_ ?_
      rotate_left
      ·intro w'
       go_simp
       with_reducible rfl
      rotate_left
      ·simp only [Act.put, zasaa, zasab, zasac, i64_w, i32_w]
       rfl
      refine take_ (i := 2) (N := some 39) (v := ?_) (a' := ?_) zassq3 rfl rfl (take_ofW HT_.out HW_.out (by kernel_rfl)) (fun _ _ _ h => h) (Or.inl ⟨by rfl, ?_⟩) hHeld ?_ ?_
      rotate_left
      ·rintro w' ⟨s0, s1, s2, s3, s4, s5, s6, s7, s8, s9, s10, s11, s12, s13, s14, s15, s16, s17, s18, s19⟩
       go_simp
       with_reducible rfl
      rotate_left
      ·simp only [Act.put, zasaa, zasab, zasac, i64_w, i32_w]
       rfl
      refine take_ (i := 4) (N := some 41) (v := ?_) (a' := ?_) zassq4 rfl rfl (take_ofW HT_.out HW_.out (by kernel_rfl)) (fun _ _ _ h => h) (Or.inl ⟨by rfl, ?_⟩) hHeld ?_ ?_
      rotate_left
      ·rintro w' ⟨s0, s1, s2, s3, s4, s5, s6, s7, s8, s9, s10, s11, s12, s13, s14, s15, s16, s17, s18, s19⟩
       go_simp
       with_reducible rfl
      rotate_left
      ·simp only [Act.put, zasaa, zasab, zasac, i64_w, i32_w]
       rfl
      refine one_ (i := 3) (N := some 40) zassq5 rfl rfl (one_of HT_.out (by kernel_rfl)) (by decide) (fun K hK => ?_)
      refine goes_ Try.func15 (by kernel_rfl) rfl #[.agg #[.int .i64 t354, .bool t355, .int .i64 t356, .string t357, .slice Ao26 t358.length co26]] (by rfl) rfl rfl (by (try simp only [zasam, zasan, zasao]); first | done | rfl) ?_
      with_reducible refine (stowagelaw13_Ref.calls k t354 t355 t356 t357 _ _ t358 t397 t398 t399 t400 t401 _ ?side1 ?side2 A11.out).mono ?_
      (case side1 => repeat (first | exact (Kd.R_reads' HO360.out).2.2 | (with_reducible refine Kd.C_alloc ?_ _) | (with_reducible refine Kd.C_drewN ?_ _) | (with_reducible refine Kd.C_drew ?_)))
      (case side2 => exact (Kd.R_reads' HO360.out).2.1)
      rintro e w52 ⟨v402, rfl, ho0, hb⟩
      refine ⟨_, rfl, ?_⟩
      have n0_ := zasap (Kd.R_below (by (with_reducible repeat (first | apply Kd.R_alloc | apply Kd.R_drewN | apply Kd.R_drew)); exact HO360.out) hb)
      have n1_ := zasap (Kd.S_elder' (by (with_reducible repeat (first | apply Kd.S_alloc | apply Kd.S_drewN | apply Kd.S_drew)); exact HO365.out) (Kd.R_base ho0) hb)
      have n2_ := zasap (Kd.V_elder' (by (with_reducible repeat (first | apply Kd.V_alloc | apply Kd.V_drewN | apply Kd.V_drew)); exact HO372.out) (Kd.R_base ho0) hb)
      have n3_ := zasap (Kd.R_below (by (with_reducible repeat (first | apply Kd.R_alloc | apply Kd.R_drewN | apply Kd.R_drew)); exact HO381.out) hb)
      have n4_ := zasap (Kd.S_elder' (by (with_reducible repeat (first | apply Kd.S_alloc | apply Kd.S_drewN | apply Kd.S_drew)); exact HO386.out) (Kd.R_base ho0) hb)
      have n5_ := zasap (Kd.V_elder' (by (with_reducible repeat (first | apply Kd.V_alloc | apply Kd.V_drewN | apply Kd.V_drew)); exact HO393.out) (Kd.R_base ho0) hb)
      have n6_ := zasap (Kd.R_lower ho0 (below_size (by repeat (first | (with_reducible first | exact HB.out | apply zasaj | apply zasah | apply zasai | refine zasag ?_ zasaz.out | refine zasag ?_ zasba.out | refine zasag ?_ zasbb.out | refine zasag ?_ zasbd.out) | exact HB.out))))
      have n7_ := zasap (blk_below (g := zasay) (o := .cells #[.int .i64 t354, .bool t355, .int .i64 t356, .string t357, .slice Ao26 t358.length co26] 24 (0, 0)) (by (with_reducible repeat (first | refine zasad ?_ _ | refine zasaf ?_ | refine zasae ?_ _)); exact zasas.out) hb)
      have n8_ := zasap (blk_below (g := zasaw) (o := .cells #[.int .i64 t366, .bool t367, .int .i64 t368, .string t369, .slice Ao33 t370.length co33] 36 (0, 0)) (by (with_reducible repeat (first | refine zasad ?_ _ | refine zasaf ?_ | refine zasae ?_ _)); exact zasat.out) hb)
      have n9_ := zasap (blk_below (g := zasax) (o := .cells #[.int .i64 t375, .bool t376, .int .i64 t377, .string t378, .slice Ao39 t379.length co39] 24 (0, 0)) (by (with_reducible repeat (first | refine zasad ?_ _ | refine zasaf ?_ | refine zasae ?_ _)); exact zasau.out) hb)
      have n10_ := zasap (blk_below (g := zasar) (o := .cells #[.int .i64 t387, .bool t388, .int .i64 t389, .string t390, .slice Ao48 t391.length co48] 36 (0, 0)) (by (with_reducible repeat (first | refine zasad ?_ _ | refine zasaf ?_ | refine zasae ?_ _)); exact zasav.out) hb)
      have n11_ := zasap (below_step (by repeat (first | (with_reducible first | exact HB.out | apply zasaj | apply zasah | apply zasai | refine zasag ?_ zasaz.out | refine zasag ?_ zasba.out | refine zasag ?_ zasbb.out | refine zasag ?_ zasbd.out) | exact HB.out)) hb)
      clear HO360
      clear HO365
      clear HO372
      clear HO381
      clear HO386
      clear HO393
      clear zasas
      clear zasat
      clear zasau
      clear zasav
      clear HB
      have HO360 := n0_
      have HO365 := n1_
      have HO372 := n2_
      have HO381 := n3_
      have HO386 := n4_
      have HO393 := n5_
      have HO403 := n6_
      have zasas := n7_
      have zasat := n8_
      have zasau := n9_
      have zasav := n10_
      have HB := n11_
      clear n0_ n1_ n2_ n3_ n4_ n5_ n6_ n7_ n8_ n9_ n10_ n11_
      (try clear hb)
      (try clear hb2)
      (try clear hk)
      (try clear hi)
      (try clear ho0)
      obtain ⟨Ao53, co53, eo53⟩ := Kd.R_slice HO403.out
      (first | subst eo53 | (injection eo53 with f1_ f2_ f3_; have f4_ := f1_.symm; have f5_ := f3_.symm; clear f1_ f2_ f3_; subst f4_; subst f5_))
      refine hK.out _ _ ⟨(zasak zasas.out 0).trans rfl, (zasak zasas.out 1).trans rfl, (zasak zasas.out 2).trans rfl, (zasak zasas.out 3).trans rfl, (zasak zasas.out 4).trans rfl, (zasak zasat.out 0).trans rfl, (zasak zasat.out 1).trans rfl, (zasak zasat.out 2).trans rfl, (zasak zasat.out 3).trans rfl, (zasak zasat.out 4).trans rfl, (zasak zasau.out 0).trans rfl, (zasak zasau.out 1).trans rfl, (zasak zasau.out 2).trans rfl, (zasak zasau.out 3).trans rfl, (zasak zasau.out 4).trans rfl, (zasak zasav.out 0).trans rfl, (zasak zasav.out 1).trans rfl, (zasak zasav.out 2).trans rfl, (zasak zasav.out 3).trans rfl, (zasak zasav.out 4).trans rfl⟩ (fun hHeld => ?_)
      clear hK K
      refine norm_ (a' := ?_) ?_ ?_
      rotate_left
      ·show Act.put _ (some 40) _ = _
       simp only [Act.put, zasaa, zasab, zasac, i64_w, i32_w]
       rfl
      refine one_ (i := 5) (N := some 42) zassq6 rfl rfl (one_of HT_.out (by kernel_rfl)) (by decide) (fun K hK => ?_)
      refine goes_ Try.func23 (by kernel_rfl) rfl #[.agg #[.int .i64 t397, .bool t398, .int .i64 t399, .string t400, .slice Ao53 t401.length co53], .agg #[.int .i64 t366, .bool t367, .int .i64 t368, .string t369, .slice Ao33 t370.length co33]] (by rfl) rfl rfl (by (try simp only [zasam, zasan, zasao]); first | done | rfl) ?_
      with_reducible refine (stowageref13_Same.calls k t397 t398 t399 t400 _ _ t401 t366 t367 t368 t369 _ _ t370 true _ ?side1 ?side2 ?side3 ?side4 A12.out).mono ?_
      (case side1 => repeat (first | exact (Kd.R_reads' HO403.out).2.2 | (with_reducible refine Kd.C_alloc ?_ _) | (with_reducible refine Kd.C_drewN ?_ _) | (with_reducible refine Kd.C_drew ?_)))
      (case side2 => exact (Kd.R_reads' HO403.out).2.1)
      (case side3 => repeat (first | exact (Kd.V_reads' HO372.out).2.2 | (with_reducible refine Kd.C_alloc ?_ _) | (with_reducible refine Kd.C_drewN ?_ _) | (with_reducible refine Kd.C_drew ?_)))
      (case side4 => exact (Kd.V_reads' HO372.out).2.1)
      rintro e w54 ⟨rfl, hb⟩
      refine ⟨_, rfl, ?_⟩
      have n0_ := zasap (Kd.R_below (by (with_reducible repeat (first | apply Kd.R_alloc | apply Kd.R_drewN | apply Kd.R_drew)); exact HO360.out) hb)
      have n1_ := zasap (Kd.S_below (by (with_reducible repeat (first | apply Kd.S_alloc | apply Kd.S_drewN | apply Kd.S_drew)); exact HO365.out) hb)
      have n2_ := zasap (Kd.V_below (by (with_reducible repeat (first | apply Kd.V_alloc | apply Kd.V_drewN | apply Kd.V_drew)); exact HO372.out) hb)
      have n3_ := zasap (Kd.R_below (by (with_reducible repeat (first | apply Kd.R_alloc | apply Kd.R_drewN | apply Kd.R_drew)); exact HO381.out) hb)
      have n4_ := zasap (Kd.S_below (by (with_reducible repeat (first | apply Kd.S_alloc | apply Kd.S_drewN | apply Kd.S_drew)); exact HO386.out) hb)
      have n5_ := zasap (Kd.V_below (by (with_reducible repeat (first | apply Kd.V_alloc | apply Kd.V_drewN | apply Kd.V_drew)); exact HO393.out) hb)
      have n6_ := zasap (Kd.R_below (by (with_reducible repeat (first | apply Kd.R_alloc | apply Kd.R_drewN | apply Kd.R_drew)); exact HO403.out) hb)
      have n7_ := zasap (blk_below (g := zasay) (o := .cells #[.int .i64 t354, .bool t355, .int .i64 t356, .string t357, .slice Ao26 t358.length co26] 24 (0, 0)) (by (with_reducible repeat (first | refine zasad ?_ _ | refine zasaf ?_ | refine zasae ?_ _)); exact zasas.out) hb)
      have n8_ := zasap (blk_below (g := zasaw) (o := .cells #[.int .i64 t366, .bool t367, .int .i64 t368, .string t369, .slice Ao33 t370.length co33] 36 (0, 0)) (by (with_reducible repeat (first | refine zasad ?_ _ | refine zasaf ?_ | refine zasae ?_ _)); exact zasat.out) hb)
      have n9_ := zasap (blk_below (g := zasax) (o := .cells #[.int .i64 t375, .bool t376, .int .i64 t377, .string t378, .slice Ao39 t379.length co39] 24 (0, 0)) (by (with_reducible repeat (first | refine zasad ?_ _ | refine zasaf ?_ | refine zasae ?_ _)); exact zasau.out) hb)
      have n10_ := zasap (blk_below (g := zasar) (o := .cells #[.int .i64 t387, .bool t388, .int .i64 t389, .string t390, .slice Ao48 t391.length co48] 36 (0, 0)) (by (with_reducible repeat (first | refine zasad ?_ _ | refine zasaf ?_ | refine zasae ?_ _)); exact zasav.out) hb)
      have n11_ := zasap (below_step (by repeat (first | (with_reducible first | exact HB.out | apply zasaj | apply zasah | apply zasai | refine zasag ?_ zasaz.out | refine zasag ?_ zasba.out | refine zasag ?_ zasbb.out | refine zasag ?_ zasbd.out) | exact HB.out)) hb)
      clear HO360
      clear HO365
      clear HO372
      clear HO381
      clear HO386
      clear HO393
      clear HO403
      clear zasas
      clear zasat
      clear zasau
      clear zasav
      clear HB
      have HO360 := n0_
      have HO365 := n1_
      have HO372 := n2_
      have HO381 := n3_
      have HO386 := n4_
      have HO393 := n5_
      have HO403 := n6_
      have zasas := n7_
      have zasat := n8_
      have zasau := n9_
      have zasav := n10_
      have HB := n11_
      clear n0_ n1_ n2_ n3_ n4_ n5_ n6_ n7_ n8_ n9_ n10_ n11_
      (try clear hb)
      (try clear hb2)
      (try clear hk)
      (try clear hi)
      refine hK.out _ _ ⟨(zasak zasas.out 0).trans rfl, (zasak zasas.out 1).trans rfl, (zasak zasas.out 2).trans rfl, (zasak zasas.out 3).trans rfl, (zasak zasas.out 4).trans rfl, (zasak zasat.out 0).trans rfl, (zasak zasat.out 1).trans rfl, (zasak zasat.out 2).trans rfl, (zasak zasat.out 3).trans rfl, (zasak zasat.out 4).trans rfl, (zasak zasau.out 0).trans rfl, (zasak zasau.out 1).trans rfl, (zasak zasau.out 2).trans rfl, (zasak zasau.out 3).trans rfl, (zasak zasau.out 4).trans rfl, (zasak zasav.out 0).trans rfl, (zasak zasav.out 1).trans rfl, (zasak zasav.out 2).trans rfl, (zasak zasav.out 3).trans rfl, (zasak zasav.out 4).trans rfl⟩ (fun hHeld => ?_)
      clear hK K
      refine norm_ (a' := ?_) ?_ ?_
      rotate_left
      ·show Act.put _ (some 42) _ = _
       simp only [Act.put, zasaa, zasab, zasac, i64_w, i32_w]
       rfl
      refine pure_ (i := 6) (N := some 43) (v := ?_) (a' := ?_) zassq7 rfl rfl (any_of HT_.out (by kernel_rfl)) (fun _ _ _ h => h) (Or.inl ⟨by rfl, ?_⟩) ?_ ?_
      rotate_left
      ·intro w'
       go_simp
       with_reducible rfl
      rotate_left
      ·simp only [Act.put, zasaa, zasab, zasac, i64_w, i32_w]
       rfl
      refine pure_ (i := 7) (N := some 44) (v := ?_) (a' := ?_) zassq8 rfl rfl (any_of HT_.out (by kernel_rfl)) (fun _ _ _ h => h) (Or.inl ⟨by rfl, ?_⟩) ?_ ?_
      rotate_left
      ·intro w'
       go_simp
       with_reducible rfl
      rotate_left
      ·simp only [Act.put, zasaa, zasab, zasac, i64_w, i32_w]
       rfl
      refine pure_ (i := 8) (N := some 45) (v := ?_) (a' := ?_) zassq9 rfl rfl (any_of HT_.out (by kernel_rfl)) (fun _ _ _ h => h) (Or.inl ⟨by rfl, ?_⟩) ?_ ?_
      rotate_left
      ·intro w'
       go_simp
       with_reducible rfl
      rotate_left
      ·simp only [Act.put, zasaa, zasab, zasac, i64_w, i32_w]
       rfl
      refine pure_ (i := 9) (N := some 46) (v := ?_) (a' := ?_) zassq10 rfl rfl (any_of HT_.out (by kernel_rfl)) (fun _ _ _ h => h) (Or.inl ⟨by rfl, ?_⟩) ?_ ?_
      rotate_left
      ·intro w'
       go_simp
       with_reducible rfl
      rotate_left
      ·simp only [Act.put, zasaa, zasab, zasac, i64_w, i32_w]
       rfl
      refine pure_ (i := 10) (N := some 47) (v := ?_) (a' := ?_) zassq11 rfl rfl (any_of HT_.out (by kernel_rfl)) (fun _ _ _ h => h) (Or.inl ⟨by rfl, ?_⟩) ?_ ?_
      rotate_left
      ·intro w'
       go_simp
       with_reducible rfl
      rotate_left
      ·simp only [Act.put, zasaa, zasab, zasac, i64_w, i32_w]
       rfl
      refine pure_ (i := 11) (N := some 48) (v := ?_) (a' := ?_) zassq12 rfl rfl (any_of HT_.out (by kernel_rfl)) (fun _ _ _ h => h) (Or.inl ⟨by rfl, ?_⟩) ?_ ?_
      rotate_left
      ·intro w'
       go_simp
       with_reducible rfl
      rotate_left
      ·simp only [Act.put, zasaa, zasab, zasac, i64_w, i32_w]
       rfl
      refine pure_ (i := 12) (N := some 49) (v := ?_) (a' := ?_) zassq13 rfl rfl (any_of HT_.out (by kernel_rfl)) (fun _ _ _ h => h) (Or.inl ⟨by rfl, ?_⟩) ?_ ?_
      rotate_left
      ·intro w'
       go_simp
       with_reducible rfl
      rotate_left
      ·simp only [Act.put, zasaa, zasab, zasac, i64_w, i32_w]
       rfl
      refine take_ (i := 13) (N := some 50) (v := ?_) (a' := ?_) zassq14 rfl rfl (take_ofW HT_.out HW_.out (by kernel_rfl)) (fun _ _ _ h => h) (Or.inl ⟨by rfl, ?_⟩) hHeld ?_ ?_
      rotate_left
      ·rintro w' ⟨s0, s1, s2, s3, s4, s5, s6, s7, s8, s9, s10, s11, s12, s13, s14, s15, s16, s17, s18, s19⟩
       go_simp
       with_reducible rfl
      rotate_left
      ·simp only [Act.put, zasaa, zasab, zasac, i64_w, i32_w]
       rfl
      refine take_ (i := 15) (N := some 52) (v := ?_) (a' := ?_) zassq15 rfl rfl (take_ofW HT_.out HW_.out (by kernel_rfl)) (fun _ _ _ h => h) (Or.inl ⟨by rfl, ?_⟩) hHeld ?_ ?_
      rotate_left
      ·rintro w' ⟨s0, s1, s2, s3, s4, s5, s6, s7, s8, s9, s10, s11, s12, s13, s14, s15, s16, s17, s18, s19⟩
       go_simp
       with_reducible rfl
      rotate_left
      ·simp only [Act.put, zasaa, zasab, zasac, i64_w, i32_w]
       rfl
      refine one_ (i := 14) (N := some 51) zassq16 rfl rfl (one_of HT_.out (by kernel_rfl)) (by decide) (fun K hK => ?_)
      refine goes_ Try.func15 (by kernel_rfl) rfl #[.agg #[.int .i64 t375, .bool t376, .int .i64 t377, .string t378, .slice Ao39 t379.length co39]] (by rfl) rfl rfl (by (try simp only [zasam, zasan, zasao]); first | done | rfl) ?_
      with_reducible refine (stowagelaw13_Ref.calls k t375 t376 t377 t378 _ _ t379 t405 t406 t407 t408 t409 _ ?side1 ?side2 A15.out).mono ?_
      (case side1 => repeat (first | exact (Kd.R_reads' HO381.out).2.2 | (with_reducible refine Kd.C_alloc ?_ _) | (with_reducible refine Kd.C_drewN ?_ _) | (with_reducible refine Kd.C_drew ?_)))
      (case side2 => exact (Kd.R_reads' HO381.out).2.1)
      rintro e w55 ⟨v410, rfl, ho0, hb⟩
      refine ⟨_, rfl, ?_⟩
      have n0_ := zasap (Kd.R_below (by (with_reducible repeat (first | apply Kd.R_alloc | apply Kd.R_drewN | apply Kd.R_drew)); exact HO360.out) hb)
      have n1_ := zasap (Kd.S_elder' (by (with_reducible repeat (first | apply Kd.S_alloc | apply Kd.S_drewN | apply Kd.S_drew)); exact HO365.out) (Kd.R_base ho0) hb)
      have n2_ := zasap (Kd.V_elder' (by (with_reducible repeat (first | apply Kd.V_alloc | apply Kd.V_drewN | apply Kd.V_drew)); exact HO372.out) (Kd.R_base ho0) hb)
      have n3_ := zasap (Kd.R_below (by (with_reducible repeat (first | apply Kd.R_alloc | apply Kd.R_drewN | apply Kd.R_drew)); exact HO381.out) hb)
      have n4_ := zasap (Kd.S_elder' (by (with_reducible repeat (first | apply Kd.S_alloc | apply Kd.S_drewN | apply Kd.S_drew)); exact HO386.out) (Kd.R_base ho0) hb)
      have n5_ := zasap (Kd.V_elder' (by (with_reducible repeat (first | apply Kd.V_alloc | apply Kd.V_drewN | apply Kd.V_drew)); exact HO393.out) (Kd.R_base ho0) hb)
      have n6_ := zasap (Kd.R_elder' (by (with_reducible repeat (first | apply Kd.R_alloc | apply Kd.R_drewN | apply Kd.R_drew)); exact HO403.out) (Kd.R_base ho0) hb)
      have n7_ := zasap (Kd.R_lower (Kd.R_new' ho0 (Kd.R_lt (by (with_reducible repeat (first | apply Kd.R_alloc | apply Kd.R_drewN | apply Kd.R_drew)); exact HO403.out))) (below_size (by repeat (first | (with_reducible first | exact HB.out | apply zasaj | apply zasah | apply zasai | refine zasag ?_ zasaz.out | refine zasag ?_ zasba.out | refine zasag ?_ zasbb.out | refine zasag ?_ zasbd.out) | exact HB.out))))
      have n8_ := zasap (blk_below (g := zasay) (o := .cells #[.int .i64 t354, .bool t355, .int .i64 t356, .string t357, .slice Ao26 t358.length co26] 24 (0, 0)) (by (with_reducible repeat (first | refine zasad ?_ _ | refine zasaf ?_ | refine zasae ?_ _)); exact zasas.out) hb)
      have n9_ := zasap (blk_below (g := zasaw) (o := .cells #[.int .i64 t366, .bool t367, .int .i64 t368, .string t369, .slice Ao33 t370.length co33] 36 (0, 0)) (by (with_reducible repeat (first | refine zasad ?_ _ | refine zasaf ?_ | refine zasae ?_ _)); exact zasat.out) hb)
      have n10_ := zasap (blk_below (g := zasax) (o := .cells #[.int .i64 t375, .bool t376, .int .i64 t377, .string t378, .slice Ao39 t379.length co39] 24 (0, 0)) (by (with_reducible repeat (first | refine zasad ?_ _ | refine zasaf ?_ | refine zasae ?_ _)); exact zasau.out) hb)
      have n11_ := zasap (blk_below (g := zasar) (o := .cells #[.int .i64 t387, .bool t388, .int .i64 t389, .string t390, .slice Ao48 t391.length co48] 36 (0, 0)) (by (with_reducible repeat (first | refine zasad ?_ _ | refine zasaf ?_ | refine zasae ?_ _)); exact zasav.out) hb)
      have n12_ := zasap (below_step (by repeat (first | (with_reducible first | exact HB.out | apply zasaj | apply zasah | apply zasai | refine zasag ?_ zasaz.out | refine zasag ?_ zasba.out | refine zasag ?_ zasbb.out | refine zasag ?_ zasbd.out) | exact HB.out)) hb)
      clear HO360
      clear HO365
      clear HO372
      clear HO381
      clear HO386
      clear HO393
      clear HO403
      clear zasas
      clear zasat
      clear zasau
      clear zasav
      clear HB
      have HO360 := n0_
      have HO365 := n1_
      have HO372 := n2_
      have HO381 := n3_
      have HO386 := n4_
      have HO393 := n5_
      have HO403 := n6_
      have HO411 := n7_
      have zasas := n8_
      have zasat := n9_
      have zasau := n10_
      have zasav := n11_
      have HB := n12_
      clear n0_ n1_ n2_ n3_ n4_ n5_ n6_ n7_ n8_ n9_ n10_ n11_ n12_
      (try clear hb)
      (try clear hb2)
      (try clear hk)
      (try clear hi)
      (try clear ho0)
      obtain ⟨Ao56, co56, eo56⟩ := Kd.R_slice HO411.out
      (first | subst eo56 | (injection eo56 with f1_ f2_ f3_; have f4_ := f1_.symm; have f5_ := f3_.symm; clear f1_ f2_ f3_; subst f4_; subst f5_))
      refine hK.out _ _ ⟨(zasak zasas.out 0).trans rfl, (zasak zasas.out 1).trans rfl, (zasak zasas.out 2).trans rfl, (zasak zasas.out 3).trans rfl, (zasak zasas.out 4).trans rfl, (zasak zasat.out 0).trans rfl, (zasak zasat.out 1).trans rfl, (zasak zasat.out 2).trans rfl, (zasak zasat.out 3).trans rfl, (zasak zasat.out 4).trans rfl, (zasak zasau.out 0).trans rfl, (zasak zasau.out 1).trans rfl, (zasak zasau.out 2).trans rfl, (zasak zasau.out 3).trans rfl, (zasak zasau.out 4).trans rfl, (zasak zasav.out 0).trans rfl, (zasak zasav.out 1).trans rfl, (zasak zasav.out 2).trans rfl, (zasak zasav.out 3).trans rfl, (zasak zasav.out 4).trans rfl⟩ (fun hHeld => ?_)
      clear hK K
      refine norm_ (a' := ?_) ?_ ?_
      rotate_left
      ·show Act.put _ (some 51) _ = _
       simp only [Act.put, zasaa, zasab, zasac, i64_w, i32_w]
       rfl
      refine one_ (i := 16) (N := some 53) zassq17 rfl rfl (one_of HT_.out (by kernel_rfl)) (by decide) (fun K hK => ?_)
      refine goes_ Try.func23 (by kernel_rfl) rfl #[.agg #[.int .i64 t405, .bool t406, .int .i64 t407, .string t408, .slice Ao56 t409.length co56], .agg #[.int .i64 t387, .bool t388, .int .i64 t389, .string t390, .slice Ao48 t391.length co48]] (by rfl) rfl rfl (by (try simp only [zasam, zasan, zasao]); first | done | rfl) ?_
      with_reducible refine (stowageref13_Same.calls k t405 t406 t407 t408 _ _ t409 t387 t388 t389 t390 _ _ t391 true _ ?side1 ?side2 ?side3 ?side4 A16.out).mono ?_
      (case side1 => repeat (first | exact (Kd.R_reads' HO411.out).2.2 | (with_reducible refine Kd.C_alloc ?_ _) | (with_reducible refine Kd.C_drewN ?_ _) | (with_reducible refine Kd.C_drew ?_)))
      (case side2 => exact (Kd.R_reads' HO411.out).2.1)
      (case side3 => repeat (first | exact (Kd.V_reads' HO393.out).2.2 | (with_reducible refine Kd.C_alloc ?_ _) | (with_reducible refine Kd.C_drewN ?_ _) | (with_reducible refine Kd.C_drew ?_)))
      (case side4 => exact (Kd.V_reads' HO393.out).2.1)
      rintro e w57 ⟨rfl, hb⟩
      refine ⟨_, rfl, ?_⟩
      have n0_ := zasap (Kd.R_below (by (with_reducible repeat (first | apply Kd.R_alloc | apply Kd.R_drewN | apply Kd.R_drew)); exact HO360.out) hb)
      have n1_ := zasap (Kd.S_below (by (with_reducible repeat (first | apply Kd.S_alloc | apply Kd.S_drewN | apply Kd.S_drew)); exact HO365.out) hb)
      have n2_ := zasap (Kd.V_below (by (with_reducible repeat (first | apply Kd.V_alloc | apply Kd.V_drewN | apply Kd.V_drew)); exact HO372.out) hb)
      have n3_ := zasap (Kd.R_below (by (with_reducible repeat (first | apply Kd.R_alloc | apply Kd.R_drewN | apply Kd.R_drew)); exact HO381.out) hb)
      have n4_ := zasap (Kd.S_below (by (with_reducible repeat (first | apply Kd.S_alloc | apply Kd.S_drewN | apply Kd.S_drew)); exact HO386.out) hb)
      have n5_ := zasap (Kd.V_below (by (with_reducible repeat (first | apply Kd.V_alloc | apply Kd.V_drewN | apply Kd.V_drew)); exact HO393.out) hb)
      have n6_ := zasap (Kd.R_below (by (with_reducible repeat (first | apply Kd.R_alloc | apply Kd.R_drewN | apply Kd.R_drew)); exact HO403.out) hb)
      have n7_ := zasap (Kd.R_below (by (with_reducible repeat (first | apply Kd.R_alloc | apply Kd.R_drewN | apply Kd.R_drew)); exact HO411.out) hb)
      have n8_ := zasap (blk_below (g := zasay) (o := .cells #[.int .i64 t354, .bool t355, .int .i64 t356, .string t357, .slice Ao26 t358.length co26] 24 (0, 0)) (by (with_reducible repeat (first | refine zasad ?_ _ | refine zasaf ?_ | refine zasae ?_ _)); exact zasas.out) hb)
      have n9_ := zasap (blk_below (g := zasaw) (o := .cells #[.int .i64 t366, .bool t367, .int .i64 t368, .string t369, .slice Ao33 t370.length co33] 36 (0, 0)) (by (with_reducible repeat (first | refine zasad ?_ _ | refine zasaf ?_ | refine zasae ?_ _)); exact zasat.out) hb)
      have n10_ := zasap (blk_below (g := zasax) (o := .cells #[.int .i64 t375, .bool t376, .int .i64 t377, .string t378, .slice Ao39 t379.length co39] 24 (0, 0)) (by (with_reducible repeat (first | refine zasad ?_ _ | refine zasaf ?_ | refine zasae ?_ _)); exact zasau.out) hb)
      have n11_ := zasap (blk_below (g := zasar) (o := .cells #[.int .i64 t387, .bool t388, .int .i64 t389, .string t390, .slice Ao48 t391.length co48] 36 (0, 0)) (by (with_reducible repeat (first | refine zasad ?_ _ | refine zasaf ?_ | refine zasae ?_ _)); exact zasav.out) hb)
      have n12_ := zasap (below_step (by repeat (first | (with_reducible first | exact HB.out | apply zasaj | apply zasah | apply zasai | refine zasag ?_ zasaz.out | refine zasag ?_ zasba.out | refine zasag ?_ zasbb.out | refine zasag ?_ zasbd.out) | exact HB.out)) hb)
      clear HO360
      clear HO365
      clear HO372
      clear HO381
      clear HO386
      clear HO393
      clear HO403
      clear HO411
      clear zasas
      clear zasat
      clear zasau
      clear zasav
      clear HB
      have HO360 := n0_
      have HO365 := n1_
      have HO372 := n2_
      have HO381 := n3_
      have HO386 := n4_
      have HO393 := n5_
      have HO403 := n6_
      have HO411 := n7_
      have zasas := n8_
      have zasat := n9_
      have zasau := n10_
      have zasav := n11_
      have HB := n12_
      clear n0_ n1_ n2_ n3_ n4_ n5_ n6_ n7_ n8_ n9_ n10_ n11_ n12_
      (try clear hb)
      (try clear hb2)
      (try clear hk)
      (try clear hi)
      refine hK.out _ _ ⟨(zasak zasas.out 0).trans rfl, (zasak zasas.out 1).trans rfl, (zasak zasas.out 2).trans rfl, (zasak zasas.out 3).trans rfl, (zasak zasas.out 4).trans rfl, (zasak zasat.out 0).trans rfl, (zasak zasat.out 1).trans rfl, (zasak zasat.out 2).trans rfl, (zasak zasat.out 3).trans rfl, (zasak zasat.out 4).trans rfl, (zasak zasau.out 0).trans rfl, (zasak zasau.out 1).trans rfl, (zasak zasau.out 2).trans rfl, (zasak zasau.out 3).trans rfl, (zasak zasau.out 4).trans rfl, (zasak zasav.out 0).trans rfl, (zasak zasav.out 1).trans rfl, (zasak zasav.out 2).trans rfl, (zasak zasav.out 3).trans rfl, (zasak zasav.out 4).trans rfl⟩ (fun hHeld => ?_)
      clear hK K
      refine norm_ (a' := ?_) ?_ ?_
      rotate_left
      ·show Act.put _ (some 53) _ = _
       simp only [Act.put, zasaa, zasab, zasac, i64_w, i32_w]
       rfl
      refine pure_ (i := 17) (N := some 54) (v := ?_) (a' := ?_) zassq18 rfl rfl (any_of HT_.out (by kernel_rfl)) (fun _ _ _ h => h) (Or.inl ⟨by rfl, ?_⟩) ?_ ?_
      rotate_left
      ·intro w'
       go_simp
       with_reducible rfl
      rotate_left
      ·simp only [Act.put, zasaa, zasab, zasac, i64_w, i32_w]
       rfl
      refine pure_ (i := 18) (N := some 55) (v := ?_) (a' := ?_) zassq19 rfl rfl (any_of HT_.out (by kernel_rfl)) (fun _ _ _ h => h) (Or.inl ⟨by rfl, ?_⟩) ?_ ?_
      rotate_left
      ·intro w'
       go_simp
       with_reducible rfl
      rotate_left
      ·simp only [Act.put, zasaa, zasab, zasac, i64_w, i32_w]
       rfl
      refine pure_ (i := 19) (N := some 56) (v := ?_) (a' := ?_) zassq20 rfl rfl (any_of HT_.out (by kernel_rfl)) (fun _ _ _ h => h) (Or.inl ⟨by rfl, ?_⟩) ?_ ?_
      rotate_left
      ·intro w'
       go_simp
       with_reducible rfl
      rotate_left
      ·simp only [Act.put, zasaa, zasab, zasac, i64_w, i32_w]
       rfl
      refine pure_ (i := 20) (N := some 57) (v := ?_) (a' := ?_) zassq21 rfl rfl (any_of HT_.out (by kernel_rfl)) (fun _ _ _ h => h) (Or.inl ⟨by rfl, ?_⟩) ?_ ?_
      rotate_left
      ·intro w'
       go_simp
       with_reducible rfl
      rotate_left
      ·simp only [Act.put, zasaa, zasab, zasac, i64_w, i32_w]
       rfl
      refine pure_ (i := 21) (N := some 58) (v := ?_) (a' := ?_) zassq22 rfl rfl (any_of HT_.out (by kernel_rfl)) (fun _ _ _ h => h) (Or.inl ⟨by rfl, ?_⟩) ?_ ?_
      rotate_left
      ·intro w'
       go_simp
       with_reducible rfl
      rotate_left
      ·simp only [Act.put, zasaa, zasab, zasac, i64_w, i32_w]
       rfl
      refine pure_ (i := 22) (N := some 59) (v := ?_) (a' := ?_) zassq23 rfl rfl (any_of HT_.out (by kernel_rfl)) (fun _ _ _ h => h) (Or.inl ⟨by rfl, ?_⟩) ?_ ?_
      rotate_left
      ·intro w'
       go_simp
       with_reducible rfl
      rotate_left
      ·simp only [Act.put, zasaa, zasab, zasac, i64_w, i32_w]
       rfl
      refine pure_ (i := 23) (N := some 60) (v := ?_) (a' := ?_) zassq24 rfl rfl (any_of HT_.out (by kernel_rfl)) (fun _ _ _ h => h) (Or.inl ⟨by rfl, ?_⟩) ?_ ?_
      rotate_left
      ·intro w'
       go_simp
       with_reducible rfl
      rotate_left
      ·simp only [Act.put, zasaa, zasab, zasac, i64_w, i32_w]
       rfl
      refine pure_ (i := 24) (N := some 61) (v := ?_) (a' := ?_) zassq25 rfl rfl (any_of HT_.out (by kernel_rfl)) (fun _ _ _ h => h) (Or.inl ⟨by rfl, ?_⟩) ?_ ?_
      rotate_left
      ·intro w'
       go_simp
       with_reducible rfl
      rotate_left
      ·simp only [Act.put, zasaa, zasab, zasac, i64_w, i32_w]
       rfl
      refine pure_ (i := 26) (N := some 63) (v := ?_) (a' := ?_) zassq26 rfl rfl (any_of HT_.out (by kernel_rfl)) (fun _ _ _ h => h) (Or.inl ⟨by rfl, ?_⟩) ?_ ?_
      rotate_left
      ·intro w'
       go_simp
       with_reducible rfl
      rotate_left
      ·simp only [Act.put, zasaa, zasab, zasac, i64_w, i32_w]
       rfl
      refine one_ (i := 25) (N := some 62) zassq27 rfl rfl (one_of HT_.out (by kernel_rfl)) (by decide) (fun K hK => ?_)
      refine goes_ Try.func28 (by kernel_rfl) rfl #[.slice A0 l0.length c0] (by rfl) rfl rfl (by (try simp only [zasam, zasan, zasao]); first | done | rfl) ?_
      with_reducible refine (chain_Ids.calls k _ _ l0 t413 _ ?side1 ?side2 A19.out).mono ?_
      (case side1 => repeat (first | exact (Kd.C_below HR0.out HB.out) | (with_reducible refine Kd.C_alloc ?_ _) | (with_reducible refine Kd.C_drewN ?_ _) | (with_reducible refine Kd.C_drew ?_)))
      (case side2 => exact HC0.out)
      rintro e w58 ⟨v414, rfl, ho0, hb⟩
      refine ⟨_, rfl, ?_⟩
      have n0_ := zasap (Kd.R_below (by (with_reducible repeat (first | apply Kd.R_alloc | apply Kd.R_drewN | apply Kd.R_drew)); exact HO360.out) hb)
      have n1_ := zasap (Kd.S_below (by (with_reducible repeat (first | apply Kd.S_alloc | apply Kd.S_drewN | apply Kd.S_drew)); exact HO365.out) hb)
      have n2_ := zasap (Kd.V_elder' (by (with_reducible repeat (first | apply Kd.V_alloc | apply Kd.V_drewN | apply Kd.V_drew)); exact HO372.out) (Kd.R_base ho0) hb)
      have n3_ := zasap (Kd.R_below (by (with_reducible repeat (first | apply Kd.R_alloc | apply Kd.R_drewN | apply Kd.R_drew)); exact HO381.out) hb)
      have n4_ := zasap (Kd.S_below (by (with_reducible repeat (first | apply Kd.S_alloc | apply Kd.S_drewN | apply Kd.S_drew)); exact HO386.out) hb)
      have n5_ := zasap (Kd.V_elder' (by (with_reducible repeat (first | apply Kd.V_alloc | apply Kd.V_drewN | apply Kd.V_drew)); exact HO393.out) (Kd.R_base ho0) hb)
      have n6_ := zasap (Kd.R_below (by (with_reducible repeat (first | apply Kd.R_alloc | apply Kd.R_drewN | apply Kd.R_drew)); exact HO403.out) hb)
      have n7_ := zasap (Kd.R_below (by (with_reducible repeat (first | apply Kd.R_alloc | apply Kd.R_drewN | apply Kd.R_drew)); exact HO411.out) hb)
      have n8_ := zasap (Kd.R_lower ho0 (below_size (by repeat (first | (with_reducible first | exact HB.out | apply zasaj | apply zasah | apply zasai | refine zasag ?_ zasaz.out | refine zasag ?_ zasba.out | refine zasag ?_ zasbb.out | refine zasag ?_ zasbd.out) | exact HB.out))))
      have n9_ := zasap (blk_below (g := zasay) (o := .cells #[.int .i64 t354, .bool t355, .int .i64 t356, .string t357, .slice Ao26 t358.length co26] 24 (0, 0)) (by (with_reducible repeat (first | refine zasad ?_ _ | refine zasaf ?_ | refine zasae ?_ _)); exact zasas.out) hb)
      have n10_ := zasap (blk_below (g := zasaw) (o := .cells #[.int .i64 t366, .bool t367, .int .i64 t368, .string t369, .slice Ao33 t370.length co33] 36 (0, 0)) (by (with_reducible repeat (first | refine zasad ?_ _ | refine zasaf ?_ | refine zasae ?_ _)); exact zasat.out) hb)
      have n11_ := zasap (blk_below (g := zasax) (o := .cells #[.int .i64 t375, .bool t376, .int .i64 t377, .string t378, .slice Ao39 t379.length co39] 24 (0, 0)) (by (with_reducible repeat (first | refine zasad ?_ _ | refine zasaf ?_ | refine zasae ?_ _)); exact zasau.out) hb)
      have n12_ := zasap (blk_below (g := zasar) (o := .cells #[.int .i64 t387, .bool t388, .int .i64 t389, .string t390, .slice Ao48 t391.length co48] 36 (0, 0)) (by (with_reducible repeat (first | refine zasad ?_ _ | refine zasaf ?_ | refine zasae ?_ _)); exact zasav.out) hb)
      have n13_ := zasap (below_step (by repeat (first | (with_reducible first | exact HB.out | apply zasaj | apply zasah | apply zasai | refine zasag ?_ zasaz.out | refine zasag ?_ zasba.out | refine zasag ?_ zasbb.out | refine zasag ?_ zasbd.out) | exact HB.out)) hb)
      clear HO360
      clear HO365
      clear HO372
      clear HO381
      clear HO386
      clear HO393
      clear HO403
      clear HO411
      clear zasas
      clear zasat
      clear zasau
      clear zasav
      clear HB
      have HO360 := n0_
      have HO365 := n1_
      have HO372 := n2_
      have HO381 := n3_
      have HO386 := n4_
      have HO393 := n5_
      have HO403 := n6_
      have HO411 := n7_
      have HO415 := n8_
      have zasas := n9_
      have zasat := n10_
      have zasau := n11_
      have zasav := n12_
      have HB := n13_
      clear n0_ n1_ n2_ n3_ n4_ n5_ n6_ n7_ n8_ n9_ n10_ n11_ n12_ n13_
      (try clear hb)
      (try clear hb2)
      (try clear hk)
      (try clear hi)
      (try clear ho0)
      refine hK.out _ _ ⟨(zasak zasas.out 0).trans rfl, (zasak zasas.out 1).trans rfl, (zasak zasas.out 2).trans rfl, (zasak zasas.out 3).trans rfl, (zasak zasas.out 4).trans rfl, (zasak zasat.out 0).trans rfl, (zasak zasat.out 1).trans rfl, (zasak zasat.out 2).trans rfl, (zasak zasat.out 3).trans rfl, (zasak zasat.out 4).trans rfl, (zasak zasau.out 0).trans rfl, (zasak zasau.out 1).trans rfl, (zasak zasau.out 2).trans rfl, (zasak zasau.out 3).trans rfl, (zasak zasau.out 4).trans rfl, (zasak zasav.out 0).trans rfl, (zasak zasav.out 1).trans rfl, (zasak zasav.out 2).trans rfl, (zasak zasav.out 3).trans rfl, (zasak zasav.out 4).trans rfl⟩ (fun hHeld => ?_)
      clear hK K
      refine norm_ (a' := ?_) ?_ ?_
      rotate_left
      ·show Act.put _ (some 62) _ = _
       simp only [Act.put, zasaa, zasab, zasac, i64_w, i32_w]
       rfl
      refine one_ (i := 27) (N := some 64) zassq28 rfl rfl (one_of HT_.out (by kernel_rfl)) (by decide) (fun K hK => ?_)
      refine goes_ Try.func18 (by kernel_rfl) rfl #[.slice A0 l0.length c0] (by rfl) rfl rfl (by (try simp only [zasam, zasan, zasao]); first | done | rfl) ?_
      with_reducible refine (stowagelaw13_Refs.calls k _ _ l0 t416 _ ?side1 ?side2 A20.out).mono ?_
      (case side1 => repeat (first | exact (Kd.C_below HR0.out HB.out) | (with_reducible refine Kd.C_alloc ?_ _) | (with_reducible refine Kd.C_drewN ?_ _) | (with_reducible refine Kd.C_drew ?_)))
      (case side2 => exact HC0.out)
      rintro e w59 ⟨v417, rfl, ho0, hb⟩
      refine ⟨_, rfl, ?_⟩
      have n0_ := zasap (Kd.R_below (by (with_reducible repeat (first | apply Kd.R_alloc | apply Kd.R_drewN | apply Kd.R_drew)); exact HO360.out) hb)
      have n1_ := zasap (Kd.S_elder' (by (with_reducible repeat (first | apply Kd.S_alloc | apply Kd.S_drewN | apply Kd.S_drew)); exact HO365.out) (Kd.S_base ho0) hb)
      have n2_ := zasap (Kd.V_elder' (by (with_reducible repeat (first | apply Kd.V_alloc | apply Kd.V_drewN | apply Kd.V_drew)); exact HO372.out) (Kd.S_base ho0) hb)
      have n3_ := zasap (Kd.R_below (by (with_reducible repeat (first | apply Kd.R_alloc | apply Kd.R_drewN | apply Kd.R_drew)); exact HO381.out) hb)
      have n4_ := zasap (Kd.S_elder' (by (with_reducible repeat (first | apply Kd.S_alloc | apply Kd.S_drewN | apply Kd.S_drew)); exact HO386.out) (Kd.S_base ho0) hb)
      have n5_ := zasap (Kd.V_elder' (by (with_reducible repeat (first | apply Kd.V_alloc | apply Kd.V_drewN | apply Kd.V_drew)); exact HO393.out) (Kd.S_base ho0) hb)
      have n6_ := zasap (Kd.R_below (by (with_reducible repeat (first | apply Kd.R_alloc | apply Kd.R_drewN | apply Kd.R_drew)); exact HO403.out) hb)
      have n7_ := zasap (Kd.R_below (by (with_reducible repeat (first | apply Kd.R_alloc | apply Kd.R_drewN | apply Kd.R_drew)); exact HO411.out) hb)
      have n8_ := zasap (Kd.R_below (by (with_reducible repeat (first | apply Kd.R_alloc | apply Kd.R_drewN | apply Kd.R_drew)); exact HO415.out) hb)
      have n9_ := zasap (Kd.S_lower (Kd.S_newB (Kd.S_newB (Kd.S_new' (Kd.S_new' (Kd.S_new' (Kd.S_new' ho0 (Kd.S_lt (by (with_reducible repeat (first | apply Kd.S_alloc | apply Kd.S_drewN | apply Kd.S_drew)); exact HO365.out))) (Kd.S_lt (by (with_reducible repeat (first | apply Kd.S_alloc | apply Kd.S_drewN | apply Kd.S_drew)); exact HO386.out))) (Kd.R_lt (by (with_reducible repeat (first | apply Kd.R_alloc | apply Kd.R_drewN | apply Kd.R_drew)); exact HO403.out))) (Kd.R_lt (by (with_reducible repeat (first | apply Kd.R_alloc | apply Kd.R_drewN | apply Kd.R_drew)); exact HO411.out))) (g := zasaw) (o := .cells #[.int .i64 t366, .bool t367, .int .i64 t368, .string t369, .slice Ao33 t370.length co33] 36 (0, 0)) (by (with_reducible repeat (first | refine zasad ?_ _ | refine zasaf ?_ | refine zasae ?_ _)); exact zasat.out)) (g := zasar) (o := .cells #[.int .i64 t387, .bool t388, .int .i64 t389, .string t390, .slice Ao48 t391.length co48] 36 (0, 0)) (by (with_reducible repeat (first | refine zasad ?_ _ | refine zasaf ?_ | refine zasae ?_ _)); exact zasav.out)) (below_size (by repeat (first | (with_reducible first | exact HB.out | apply zasaj | apply zasah | apply zasai | refine zasag ?_ zasaz.out | refine zasag ?_ zasba.out | refine zasag ?_ zasbb.out | refine zasag ?_ zasbd.out) | exact HB.out))))
      have n10_ := zasap (blk_below (g := zasay) (o := .cells #[.int .i64 t354, .bool t355, .int .i64 t356, .string t357, .slice Ao26 t358.length co26] 24 (0, 0)) (by (with_reducible repeat (first | refine zasad ?_ _ | refine zasaf ?_ | refine zasae ?_ _)); exact zasas.out) hb)
      have n11_ := zasap (blk_below (g := zasaw) (o := .cells #[.int .i64 t366, .bool t367, .int .i64 t368, .string t369, .slice Ao33 t370.length co33] 36 (0, 0)) (by (with_reducible repeat (first | refine zasad ?_ _ | refine zasaf ?_ | refine zasae ?_ _)); exact zasat.out) hb)
      have n12_ := zasap (blk_below (g := zasax) (o := .cells #[.int .i64 t375, .bool t376, .int .i64 t377, .string t378, .slice Ao39 t379.length co39] 24 (0, 0)) (by (with_reducible repeat (first | refine zasad ?_ _ | refine zasaf ?_ | refine zasae ?_ _)); exact zasau.out) hb)
      have n13_ := zasap (blk_below (g := zasar) (o := .cells #[.int .i64 t387, .bool t388, .int .i64 t389, .string t390, .slice Ao48 t391.length co48] 36 (0, 0)) (by (with_reducible repeat (first | refine zasad ?_ _ | refine zasaf ?_ | refine zasae ?_ _)); exact zasav.out) hb)
      have n14_ := zasap (below_step (by repeat (first | (with_reducible first | exact HB.out | apply zasaj | apply zasah | apply zasai | refine zasag ?_ zasaz.out | refine zasag ?_ zasba.out | refine zasag ?_ zasbb.out | refine zasag ?_ zasbd.out) | exact HB.out)) hb)
      clear HO360
      clear HO365
      clear HO372
      clear HO381
      clear HO386
      clear HO393
      clear HO403
      clear HO411
      clear HO415
      clear zasas
      clear zasat
      clear zasau
      clear zasav
      clear HB
      have HO360 := n0_
      have HO365 := n1_
      have HO372 := n2_
      have HO381 := n3_
      have HO386 := n4_
      have HO393 := n5_
      have HO403 := n6_
      have HO411 := n7_
      have HO415 := n8_
      have HO418 := n9_
      have zasas := n10_
      have zasat := n11_
      have zasau := n12_
      have zasav := n13_
      have HB := n14_
      clear n0_ n1_ n2_ n3_ n4_ n5_ n6_ n7_ n8_ n9_ n10_ n11_ n12_ n13_ n14_
      (try clear hb)
      (try clear hb2)
      (try clear hk)
      (try clear hi)
      (try clear ho0)
      obtain ⟨Ao60, co60, eo60⟩ := Kd.S_slice HO418.out
      (first | subst eo60 | (injection eo60 with f1_ f2_ f3_; have f4_ := f1_.symm; have f5_ := f3_.symm; clear f1_ f2_ f3_; subst f4_; subst f5_))
      refine hK.out _ _ ⟨(zasak zasas.out 0).trans rfl, (zasak zasas.out 1).trans rfl, (zasak zasas.out 2).trans rfl, (zasak zasas.out 3).trans rfl, (zasak zasas.out 4).trans rfl, (zasak zasat.out 0).trans rfl, (zasak zasat.out 1).trans rfl, (zasak zasat.out 2).trans rfl, (zasak zasat.out 3).trans rfl, (zasak zasat.out 4).trans rfl, (zasak zasau.out 0).trans rfl, (zasak zasau.out 1).trans rfl, (zasak zasau.out 2).trans rfl, (zasak zasau.out 3).trans rfl, (zasak zasau.out 4).trans rfl, (zasak zasav.out 0).trans rfl, (zasak zasav.out 1).trans rfl, (zasak zasav.out 2).trans rfl, (zasak zasav.out 3).trans rfl, (zasak zasav.out 4).trans rfl⟩ (fun hHeld => ?_)
      clear hK K
      refine norm_ (a' := ?_) ?_ ?_
      rotate_left
      ·show Act.put _ (some 64) _ = _
       simp only [Act.put, zasaa, zasab, zasac, i64_w, i32_w]
       rfl
      refine one_ (i := 28) (N := some 65) zassq29 rfl rfl (one_of HT_.out (by kernel_rfl)) (by decide) (fun K hK => ?_)
      refine goes_ Try.func29 (by kernel_rfl) rfl #[.slice Ao60 t416.length co60] (by rfl) rfl rfl (by (try simp only [zasam, zasan, zasao]); first | done | rfl) ?_
      with_reducible refine (stowageref13_Ids.calls k _ _ t416 t419 _ ?side1 ?side2 A21.out).mono ?_
      (case side1 => repeat (first | exact (Kd.S_reads' HO418.out).2.2 | (with_reducible refine Kd.C_alloc ?_ _) | (with_reducible refine Kd.C_drewN ?_ _) | (with_reducible refine Kd.C_drew ?_)))
      (case side2 => exact (Kd.S_reads' HO418.out).2.1)
      rintro e w61 ⟨v420, rfl, ho0, hb⟩
      refine ⟨_, rfl, ?_⟩
      have n0_ := zasap (Kd.R_below (by (with_reducible repeat (first | apply Kd.R_alloc | apply Kd.R_drewN | apply Kd.R_drew)); exact HO360.out) hb)
      have n1_ := zasap (Kd.S_below (by (with_reducible repeat (first | apply Kd.S_alloc | apply Kd.S_drewN | apply Kd.S_drew)); exact HO365.out) hb)
      have n2_ := zasap (Kd.V_elder' (by (with_reducible repeat (first | apply Kd.V_alloc | apply Kd.V_drewN | apply Kd.V_drew)); exact HO372.out) (Kd.R_base ho0) hb)
      have n3_ := zasap (Kd.R_below (by (with_reducible repeat (first | apply Kd.R_alloc | apply Kd.R_drewN | apply Kd.R_drew)); exact HO381.out) hb)
      have n4_ := zasap (Kd.S_below (by (with_reducible repeat (first | apply Kd.S_alloc | apply Kd.S_drewN | apply Kd.S_drew)); exact HO386.out) hb)
      have n5_ := zasap (Kd.V_elder' (by (with_reducible repeat (first | apply Kd.V_alloc | apply Kd.V_drewN | apply Kd.V_drew)); exact HO393.out) (Kd.R_base ho0) hb)
      have n6_ := zasap (Kd.R_below (by (with_reducible repeat (first | apply Kd.R_alloc | apply Kd.R_drewN | apply Kd.R_drew)); exact HO403.out) hb)
      have n7_ := zasap (Kd.R_below (by (with_reducible repeat (first | apply Kd.R_alloc | apply Kd.R_drewN | apply Kd.R_drew)); exact HO411.out) hb)
      have n8_ := zasap (Kd.R_elder' (by (with_reducible repeat (first | apply Kd.R_alloc | apply Kd.R_drewN | apply Kd.R_drew)); exact HO415.out) (Kd.R_base ho0) hb)
      have n9_ := zasap (Kd.S_below (by (with_reducible repeat (first | apply Kd.S_alloc | apply Kd.S_drewN | apply Kd.S_drew)); exact HO418.out) hb)
      have n10_ := zasap (Kd.R_lower (Kd.R_new' ho0 (Kd.R_lt (by (with_reducible repeat (first | apply Kd.R_alloc | apply Kd.R_drewN | apply Kd.R_drew)); exact HO415.out))) (below_size (by repeat (first | (with_reducible first | exact HB.out | apply zasaj | apply zasah | apply zasai | refine zasag ?_ zasaz.out | refine zasag ?_ zasba.out | refine zasag ?_ zasbb.out | refine zasag ?_ zasbd.out) | exact HB.out))))
      have n11_ := zasap (blk_below (g := zasay) (o := .cells #[.int .i64 t354, .bool t355, .int .i64 t356, .string t357, .slice Ao26 t358.length co26] 24 (0, 0)) (by (with_reducible repeat (first | refine zasad ?_ _ | refine zasaf ?_ | refine zasae ?_ _)); exact zasas.out) hb)
      have n12_ := zasap (blk_below (g := zasaw) (o := .cells #[.int .i64 t366, .bool t367, .int .i64 t368, .string t369, .slice Ao33 t370.length co33] 36 (0, 0)) (by (with_reducible repeat (first | refine zasad ?_ _ | refine zasaf ?_ | refine zasae ?_ _)); exact zasat.out) hb)
      have n13_ := zasap (blk_below (g := zasax) (o := .cells #[.int .i64 t375, .bool t376, .int .i64 t377, .string t378, .slice Ao39 t379.length co39] 24 (0, 0)) (by (with_reducible repeat (first | refine zasad ?_ _ | refine zasaf ?_ | refine zasae ?_ _)); exact zasau.out) hb)
      have n14_ := zasap (blk_below (g := zasar) (o := .cells #[.int .i64 t387, .bool t388, .int .i64 t389, .string t390, .slice Ao48 t391.length co48] 36 (0, 0)) (by (with_reducible repeat (first | refine zasad ?_ _ | refine zasaf ?_ | refine zasae ?_ _)); exact zasav.out) hb)
      have n15_ := zasap (below_step (by repeat (first | (with_reducible first | exact HB.out | apply zasaj | apply zasah | apply zasai | refine zasag ?_ zasaz.out | refine zasag ?_ zasba.out | refine zasag ?_ zasbb.out | refine zasag ?_ zasbd.out) | exact HB.out)) hb)
      clear HO360
      clear HO365
      clear HO372
      clear HO381
      clear HO386
      clear HO393
      clear HO403
      clear HO411
      clear HO415
      clear HO418
      clear zasas
      clear zasat
      clear zasau
      clear zasav
      clear HB
      have HO360 := n0_
      have HO365 := n1_
      have HO372 := n2_
      have HO381 := n3_
      have HO386 := n4_
      have HO393 := n5_
      have HO403 := n6_
      have HO411 := n7_
      have HO415 := n8_
      have HO418 := n9_
      have HO421 := n10_
      have zasas := n11_
      have zasat := n12_
      have zasau := n13_
      have zasav := n14_
      have HB := n15_
      clear n0_ n1_ n2_ n3_ n4_ n5_ n6_ n7_ n8_ n9_ n10_ n11_ n12_ n13_ n14_ n15_
      (try clear hb)
      (try clear hb2)
      (try clear hk)
      (try clear hi)
      (try clear ho0)
      obtain ⟨Ao62, co62, eo62⟩ := Kd.R_slice HO415.out
      (first | subst eo62 | (injection eo62 with f1_ f2_ f3_; have f4_ := f1_.symm; have f5_ := f3_.symm; clear f1_ f2_ f3_; subst f4_; subst f5_))
      obtain ⟨Ao63, co63, eo63⟩ := Kd.R_slice HO421.out
      (first | subst eo63 | (injection eo63 with f1_ f2_ f3_; have f4_ := f1_.symm; have f5_ := f3_.symm; clear f1_ f2_ f3_; subst f4_; subst f5_))
      refine hK.out _ _ ⟨(zasak zasas.out 0).trans rfl, (zasak zasas.out 1).trans rfl, (zasak zasas.out 2).trans rfl, (zasak zasas.out 3).trans rfl, (zasak zasas.out 4).trans rfl, (zasak zasat.out 0).trans rfl, (zasak zasat.out 1).trans rfl, (zasak zasat.out 2).trans rfl, (zasak zasat.out 3).trans rfl, (zasak zasat.out 4).trans rfl, (zasak zasau.out 0).trans rfl, (zasak zasau.out 1).trans rfl, (zasak zasau.out 2).trans rfl, (zasak zasau.out 3).trans rfl, (zasak zasau.out 4).trans rfl, (zasak zasav.out 0).trans rfl, (zasak zasav.out 1).trans rfl, (zasak zasav.out 2).trans rfl, (zasak zasav.out 3).trans rfl, (zasak zasav.out 4).trans rfl⟩ (fun hHeld => ?_)
      clear hK K
      refine norm_ (a' := ?_) ?_ ?_
      rotate_left
      ·show Act.put _ (some 65) _ = _
       simp only [Act.put, zasaa, zasab, zasac, i64_w, i32_w]
       rfl
      refine one_ (i := 29) (N := some 66) zassq30 rfl rfl (one_of HT_.out (by kernel_rfl)) (by decide) (fun K hK => ?_)
      refine goes_ Try.func27 (by kernel_rfl) rfl #[.slice Ao62 t413.length co62, .slice Ao63 t419.length co63] (by rfl) rfl rfl (by (try simp only [zasam, zasan, zasao]); first | done | rfl) ?_
      with_reducible refine (stowagelaw01_Same.calls k _ _ t413 _ _ t419 t422 _ ?side1 ?side2 ?side3 ?side4 A22.out).mono ?_
      (case side1 => repeat (first | exact (Kd.R_reads' HO415.out).2.2 | (with_reducible refine Kd.C_alloc ?_ _) | (with_reducible refine Kd.C_drewN ?_ _) | (with_reducible refine Kd.C_drew ?_)))
      (case side2 => exact (Kd.R_reads' HO415.out).2.1)
      (case side3 => repeat (first | exact (Kd.R_reads' HO421.out).2.2 | (with_reducible refine Kd.C_alloc ?_ _) | (with_reducible refine Kd.C_drewN ?_ _) | (with_reducible refine Kd.C_drew ?_)))
      (case side4 => exact (Kd.R_reads' HO421.out).2.1)
      rintro e w' ⟨rfl, ⟨nd, rfl⟩⟩
      refine ⟨_, rfl, ?_⟩
      refine hK.out _ _ ⟨(zasak zasas.out 0).trans rfl, (zasak zasas.out 1).trans rfl, (zasak zasas.out 2).trans rfl, (zasak zasas.out 3).trans rfl, (zasak zasas.out 4).trans rfl, (zasak zasat.out 0).trans rfl, (zasak zasat.out 1).trans rfl, (zasak zasat.out 2).trans rfl, (zasak zasat.out 3).trans rfl, (zasak zasat.out 4).trans rfl, (zasak zasau.out 0).trans rfl, (zasak zasau.out 1).trans rfl, (zasak zasau.out 2).trans rfl, (zasak zasau.out 3).trans rfl, (zasak zasau.out 4).trans rfl, (zasak zasav.out 0).trans rfl, (zasak zasav.out 1).trans rfl, (zasak zasav.out 2).trans rfl, (zasak zasav.out 3).trans rfl, (zasak zasav.out 4).trans rfl⟩ (fun hHeld => ?_)
      clear hK K
      refine norm_ (a' := ?_) ?_ ?_
      rotate_left
      ·show Act.put _ (some 66) _ = _
       simp only [Act.put, zasaa, zasab, zasac, i64_w, i32_w]
       rfl
      refine pure_ (i := 30) (N := some 67) (v := ?_) (a' := ?_) zassq31 rfl rfl (any_of HT_.out (by kernel_rfl)) (fun _ _ _ h => h) (Or.inl ⟨by rfl, ?_⟩) ?_ ?_
      rotate_left
      ·intro w'
       go_simp
       with_reducible rfl
      rotate_left
      ·simp only [Act.put, zasaa, zasab, zasac, i64_w, i32_w]
       rfl
      refine pure_ (i := 31) (N := some 4) (v := ?_) (a' := ?_) zassq32 rfl rfl (any_of HT_.out (by kernel_rfl)) (fun _ _ _ h => h) (Or.inl ⟨by rfl, ?_⟩) ?_ ?_
      rotate_left
      ·intro w'
       go_simp
       with_reducible rfl
      rotate_left
      ·simp only [Act.put, zasaa, zasab, zasac, i64_w, i32_w]
       rfl
      refine done_ (done_of HT_.out (by kernel_rfl)) ?_
      try go_wp2
      go_ret
      exact ⟨by first | rfl | (simp [errW_none, errW_some] <;> rfl) | (simp [*, errW_none, errW_some] <;> rfl), by repeat (first | (with_reducible first | exact HB.out | apply zasaj | apply zasah | apply zasai | refine zasag ?_ zasaz.out | refine zasag ?_ zasba.out | refine zasag ?_ zasbb.out | refine zasag ?_ zasbd.out) | exact HB.out)⟩
     ·rw [if_neg c18] at H
      have c18b0 : (t382 == t394) = false := beq_eq_false_iff_ne.mpr c18
      have c18b1 : (t382 != t394) = true := bne_iff_ne.mpr c18
      exact absurd ((Option.some.inj H).trans HTR.out) Bool.false_ne_true
    ·replace c17 := Bool.eq_false_iff.mpr c17
     subst c17
     have H1 : (some false) = some r := by rw [if_neg (show ¬ (false = true) by decide)] at H; exact H
     clear H
     have H := H1
     clear H1
     exact absurd ((Option.some.inj H).trans HTR.out) Bool.false_ne_true
   ·rw [if_neg c14] at H
    have c14b0 : (t361 == t373) = false := beq_eq_false_iff_ne.mpr c14
    have c14b1 : (t361 != t373) = true := bne_iff_ne.mpr c14
    exact absurd ((Option.some.inj H).trans HTR.out) Bool.false_ne_true
  ·replace c13 := Bool.eq_false_iff.mpr c13
   subst c13
   have H1 : (some false) = some r := by rw [if_neg (show ¬ (false = true) by decide)] at H; exact H
   clear H
   have H := H1
   clear H1
   exact absurd ((Option.some.inj H).trans HTR.out) Bool.false_ne_true
 ·replace c10 := Bool.eq_false_iff.mpr c10
  subst c10
  have H1 : (some false) = some r := by rw [if_neg (show ¬ (false = true) by decide)] at H; exact H
  clear H
  have H := H1
  clear H1
  exact absurd ((Option.some.inj H).trans HTR.out) Bool.false_ne_true
end Go.Proofs.Ytmpnaaegahjfkaa.Q