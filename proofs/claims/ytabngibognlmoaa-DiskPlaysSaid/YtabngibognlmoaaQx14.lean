

/- Written by a program of this session (wip/patch_print.py over the kit's print): functions of the given program as plain Lean functions, and that each call does what its function says, under no further conditions. -/
import Derived.Test.YtabngibognlmoaaQx0
import Derived.Test.YtabngibognlmoaaQx9
import Derived.Test.YtabngibognlmoaaQx12
import Derived.Test.YtabngibognlmoaaQx13
namespace Go.Proofs.Ytabngibognlmoaa.Q
open Go.RowKit Go.Proofs.YtabngibognlmoaaW.PrintWords Go.Proofs.YtabngibognlmoaaW.PrintLast Go.Proofs.YtabngibognlmoaaW.PrintMore
attribute [local go_sem] max2_int min2_int max_two min_two max_three min_three max_four min_four   -- for this text's walks alone
set_option linter.unusedVariables false
set_option linter.unusedSimpArgs false
attribute [local go_sem] xor_ones_u8 xor_ones_u16 xor_ones_u32 xor_ones_u64 cell_twice frozen_twice
abbrev zoaa := @List.setIfInBounds_toArray
abbrev zoab := @List.set_cons_zero
abbrev zoac := @List.set_cons_succ
abbrev zoad := @blk_drewN
abbrev zoae := @blk_alloc
abbrev zoaf := @blk_drew
abbrev zoag := @below_set
abbrev zoah := @pw_below_drewN
abbrev zoai := @below_drew1
abbrev zoaj := @below_alloc
abbrev zoak := @blk_cell
abbrev zoal := @blk_frozen
abbrev zoam := @Aside0.mk
abbrev zosq0 : Array Bool := #[false, false, false, false, false, false, false, false, false, false, false, false, false, false, false, false, false, false, false, false, false, false, false, false, false]
abbrev zosq1 : Array Bool := #[true, false, false, false, false, false, false, false, false, false, false, false, false, false, false, false, false, false, false, false, false, false, false, false, false]
abbrev zosq2 : Array Bool := #[true, true, false, false, false, false, false, false, false, false, false, false, false, false, false, false, false, false, false, false, false, false, false, false, false]
abbrev zosq3 : Array Bool := #[true, true, true, false, false, false, false, false, false, false, false, false, false, false, false, false, false, false, false, false, false, false, false, false, false]
abbrev zosq4 : Array Bool := #[true, true, true, true, false, false, false, false, false, false, false, false, false, false, false, false, false, false, false, false, false, false, false, false, false]
abbrev zosq5 : Array Bool := #[true, true, true, true, true, false, false, false, false, false, false, false, false, false, false, false, false, false, false, false, false, false, false, false, false]
abbrev zosq6 : Array Bool := #[true, true, true, true, true, true, false, false, false, false, false, false, false, false, false, false, false, false, false, false, false, false, false, false, false]
abbrev zosq7 : Array Bool := #[true, true, true, true, true, true, true, false, false, false, false, false, false, false, false, false, false, false, false, false, false, false, false, false, false]
abbrev zosq8 : Array Bool := #[true, true, true, true, true, true, true, true, false, false, false, false, false, false, false, false, false, false, false, false, false, false, false, false, false]
abbrev zosq9 : Array Bool := #[true, true, true, true, true, true, true, true, true, false, false, false, false, false, false, false, false, false, false, false, false, false, false, false, false]
abbrev zosq10 : Array Bool := #[true, true, true, true, true, true, true, true, true, true, false, false, false, false, false, false, false, false, false, false, false, false, false, false, false]
abbrev zosq11 : Array Bool := #[true, true, true, true, true, true, true, true, true, true, true, false, false, false, false, false, false, false, false, false, false, false, false, false, false]
abbrev zosq12 : Array Bool := #[true, true, true, true, true, true, true, true, true, true, true, true, false, false, false, false, false, false, false, false, false, false, false, false, false]
abbrev zosq13 : Array Bool := #[true, true, true, true, true, true, true, true, true, true, true, true, true, false, false, false, false, false, false, false, false, false, false, false, false]
abbrev zosq14 : Array Bool := #[true, true, true, true, true, true, true, true, true, true, true, true, true, true, false, false, false, false, false, false, false, false, false, false, false]
abbrev zosq15 : Array Bool := #[true, true, true, true, true, true, true, true, true, true, true, true, true, true, true, false, false, false, false, false, false, false, false, false, false]
abbrev zosq16 : Array Bool := #[true, true, true, true, true, true, true, true, true, true, true, true, true, true, true, true, false, false, false, false, false, false, false, false, false]
abbrev zosq17 : Array Bool := #[true, true, true, true, true, true, true, true, true, true, true, true, true, true, true, true, true, false, false, false, false, false, false, false, false]
abbrev zosq18 : Array Bool := #[true, true, true, true, true, true, true, true, true, true, true, true, true, true, true, true, true, true, false, false, false, false, false, false, false]
abbrev zosq19 : Array Bool := #[true, true, true, true, true, true, true, true, true, true, true, true, true, true, true, true, true, true, true, false, false, false, false, false, false]
abbrev zosq20 : Array Bool := #[true, true, true, true, true, true, true, true, true, true, true, true, true, true, true, true, true, true, true, true, false, false, false, false, false]
abbrev zosq21 : Array Bool := #[true, true, true, true, true, true, true, true, true, true, true, true, true, true, true, true, true, true, true, true, true, false, false, false, false]
abbrev zosq22 : Array Bool := #[true, true, true, true, true, true, true, true, true, true, true, true, true, true, true, true, true, true, true, true, true, true, false, false, false]
abbrev zosq23 : Array Bool := #[true, true, true, true, true, true, true, true, true, true, true, true, true, true, true, true, true, true, true, true, true, true, true, false, false]
abbrev zosq24 : Array Bool := #[true, true, true, true, true, true, true, true, true, true, true, true, true, true, true, true, true, true, true, true, true, true, true, true, false]
abbrev zosq25 : Array Bool := #[true, true, true, true, true, true, true, true, true, true, true, true, true, true, true, true, true, true, true, true, true, true, true, true, true]
abbrev zosq26 : Array Bool := #[true, true, true, true, true, true, true, true, true, true, true, true, true, true, false, false, true, false, false, false, false, false, false, false, false]
abbrev zosq27 : Array Bool := #[true, true, true, true, true, true, true, true, true, true, true, true, true, true, false, false, true, false, false, false, true, false, false, false, false]
abbrev zosq28 : Array Bool := #[true, true, true, true, true, true, true, true, true, true, true, true, true, true, true, false, true, false, false, false, true, false, false, false, false]
abbrev zosq29 : Array Bool := #[true, true, true, true, true, true, true, true, true, true, true, true, true, true, true, false, true, true, false, false, true, false, false, false, false]
abbrev zosq30 : Array Bool := #[true, true, true, true, true, true, true, true, true, true, true, true, true, true, true, false, true, true, true, false, true, false, false, false, false]
abbrev zosq31 : Array Bool := #[true, true, true, true, true, true, true, true, true, true, true, true, true, true, true, false, true, true, true, false, true, true, false, false, false]
abbrev zosq32 : Array Bool := #[true, true, true, true, true, true, true, true, true, true, true, true, true, true, true, true, true, true, true, false, true, true, false, false, false]
abbrev zosq33 : Array Bool := #[false, false, false, false, false, false, false, false, false, false, false, false, false, false, false, false, false, false, false, false, false, false, false, false, false, false, false, false, false]
abbrev zosq34 : Array Bool := #[true, false, false, false, false, false, false, false, false, false, false, false, false, false, false, false, false, false, false, false, false, false, false, false, false, false, false, false, false]
abbrev zosq35 : Array Bool := #[true, true, false, false, false, false, false, false, false, false, false, false, false, false, false, false, false, false, false, false, false, false, false, false, false, false, false, false, false]
abbrev zosq36 : Array Bool := #[true, true, true, false, false, false, false, false, false, false, false, false, false, false, false, false, false, false, false, false, false, false, false, false, false, false, false, false, false]
abbrev zosq37 : Array Bool := #[true, true, true, true, false, false, false, false, false, false, false, false, false, false, false, false, false, false, false, false, false, false, false, false, false, false, false, false, false]
abbrev zosq38 : Array Bool := #[true, true, true, true, true, false, false, false, false, false, false, false, false, false, false, false, false, false, false, false, false, false, false, false, false, false, false, false, false]
abbrev zosq39 : Array Bool := #[true, true, true, true, true, false, false, true, false, false, false, false, false, false, false, false, false, false, false, false, false, false, false, false, false, false, false, false, false]
abbrev zosq40 : Array Bool := #[true, true, true, true, true, true, false, true, false, false, false, false, false, false, false, false, false, false, false, false, false, false, false, false, false, false, false, false, false]
abbrev zosq41 : Array Bool := #[true, true, true, true, true, true, true, true, false, false, false, false, false, false, false, false, false, false, false, false, false, false, false, false, false, false, false, false, false]
abbrev zosq42 : Array Bool := #[true, true, true, true, true, true, true, true, true, false, false, false, false, false, false, false, false, false, false, false, false, false, false, false, false, false, false, false, false]
abbrev zosq43 : Array Bool := #[true, true, true, true, true, true, true, true, true, true, false, false, false, false, false, false, false, false, false, false, false, false, false, false, false, false, false, false, false]
abbrev zosq44 : Array Bool := #[true, true, true, true, true, true, true, true, true, true, true, false, false, false, false, false, false, false, false, false, false, false, false, false, false, false, false, false, false]
abbrev zosq45 : Array Bool := #[true, true, true, true, true, true, true, true, true, true, true, true, false, false, false, false, false, false, false, false, false, false, false, false, false, false, false, false, false]
abbrev zosq46 : Array Bool := #[true, true, true, true, true, true, true, true, true, true, true, true, true, false, false, false, false, false, false, false, false, false, false, false, false, false, false, false, false]
abbrev zosq47 : Array Bool := #[true, true, true, true, true, true, true, true, true, true, true, true, true, true, false, false, false, false, false, false, false, false, false, false, false, false, false, false, false]
abbrev zosq48 : Array Bool := #[true, true, true, true, true, true, true, true, true, true, true, true, true, true, true, false, false, false, false, false, false, false, false, false, false, false, false, false, false]
abbrev zosq49 : Array Bool := #[true, true, true, true, true, true, true, true, true, true, true, true, true, true, true, true, false, false, false, false, false, false, false, false, false, false, false, false, false]
abbrev zosq50 : Array Bool := #[true, true, true, true, true, true, true, true, true, true, true, true, true, true, true, true, false, false, true, false, false, false, false, false, false, false, false, false, false]
abbrev zosq51 : Array Bool := #[true, true, true, true, true, true, true, true, true, true, true, true, true, true, true, true, false, false, true, false, true, false, false, false, false, false, false, false, false]
abbrev zosq52 : Array Bool := #[true, true, true, true, true, true, true, true, true, true, true, true, true, true, true, true, false, false, true, false, true, false, false, false, true, false, false, false, false]
abbrev zosq53 : Array Bool := #[true, true, true, true, true, true, true, true, true, true, true, true, true, true, true, true, true, false, true, false, true, false, false, false, true, false, false, false, false]
abbrev zosq54 : Array Bool := #[true, true, true, true, true, true, true, true, true, true, true, true, true, true, true, true, true, false, true, false, true, true, false, false, true, false, false, false, false]
abbrev zosq55 : Array Bool := #[true, true, true, true, true, true, true, true, true, true, true, true, true, true, true, true, true, false, true, false, true, true, true, false, true, false, false, false, false]
abbrev zosq56 : Array Bool := #[true, true, true, true, true, true, true, true, true, true, true, true, true, true, true, true, true, false, true, false, true, true, true, false, true, true, false, false, false]
abbrev zosq57 : Array Bool := #[true, true, true, true, true, true, true, true, true, true, true, true, true, true, true, true, true, true, true, false, true, true, true, false, true, true, false, false, false]
abbrev zosq58 : Array Bool := #[true, true, true, true, true, true, true, true, true, true, true, true, true, true, true, true, true, true, true, true, true, true, true, false, true, true, false, false, false]
abbrev zosq59 : Array Bool := #[true, true, true, true, true, true, true, true, true, true, true, true, true, true, true, true, true, true, true, true, true, true, true, true, true, true, false, false, false]
abbrev zosq60 : Array Bool := #[true, true, true, true, true, true, true, true, true, true, true, true, true, true, true, true, true, true, true, true, true, true, true, true, true, true, true, false, false]
abbrev zosq61 : Array Bool := #[true, true, true, true, true, true, true, true, true, true, true, true, true, true, true, true, true, true, true, true, true, true, true, true, true, true, true, true, false]
abbrev zosq62 : Array Bool := #[true, true, true, true, true, true, true, true, true, true, true, true, true, true, true, true, true, true, true, true, true, true, true, true, true, true, true, true, true]
abbrev zosq63 : Array Bool := #[true, true, true, true, true, true, true, true, true, true, true, true, true, true, true, true, true, false, false, false, false, false, false, false, false, false, false, false, false]
abbrev zosq64 : Array Bool := #[true, true, true, true, true, true, true, true, true, true, true, true, true, true, true, true, true, true, false, false, false, false, false, false, false, false, false, false, false]
abbrev zosq65 : Array Bool := #[true, true, true, true, true, true, true, true, true, true, true, true, true, true, true, true, true, true, true, false, false, false, false, false, false, false, false, false, false]
abbrev zosq66 : Array Bool := #[true, true, true, true, true, true, true, true, true, true, true, true, true, true, true, true, true, true, true, true, false, false, false, false, false, false, false, false, false]
abbrev zosq67 : Array Bool := #[true, true, true, true, true, true, true, true, true, true, true, true, true, true, true, true, true, true, true, true, true, false, false, false, false, false, false, false, false]
abbrev zosq68 : Array Bool := #[true, true, true, true, true, true, true, true, true, true, true, true, true, true, true, true, true, true, true, true, true, true, false, false, false, false, false, false, false]
abbrev zosq69 : Array Bool := #[true, true, true, true, true, true, true, true, true, true, true, true, true, true, true, true, true, true, true, true, true, true, true, false, false, false, false, false, false]
abbrev zosq70 : Array Bool := #[true, true, true, true, true, true, true, true, true, true, true, true, true, true, true, true, true, true, true, true, true, true, true, true, false, false, false, false, false]
abbrev zosq71 : Array Bool := #[true, true, true, true, true, true, true, true, true, true, true, true, true, true, true, true, true, true, true, true, true, true, true, true, true, false, false, false, false]
abbrev zosq72 : Array Bool := #[true, true, true, true, true, true, false, false, false, false, false, false, false, false, false, false, false, false, false, false, false, false, false, false, false, false, false, false, false]
abbrev zosq73 : Array Bool := #[true, true, true, true, true, true, true, false, false, false, false, false, false, false, false, false, false, false, false, false, false, false, false, false, false, false, false, false, false]
/-! ### stowageref04_Disk_Wrong: function 57 -/
mutual
def stowageref04_Disk_Wrong.j0 : Nat → Bool → List (S48) → List (S86) → Int → Bool → List (S90) → Int → Int → ByteArray → ByteArray → ByteArray → Int → Option (Int)
 | 0, _, _, _, _, _, _, _, _, _, _, _, _ => none
 | k + 1, x25, zobc, zobd, zobe, zobf, zobg, zobb, zoas, zoav, zoax, zoau, zoaw => if x25 = true then (some 20) else ((stowageref04_Disk_Now.f k zobc zobd zobe zobf zobg zobb).bind fun t306 => ((stowageref04_Find.f k t306 zoav).bind fun bt309 => (if bt309.2 = true then (if 0 ≤ bt309.1 then (if bt309.1 < (t306.length : Int) then (stowageref04_Disk_Wrong.j1 k bt309.2 (((rd_T48 t306 bt309.1).f1).size : Int) zobc zobd zobe zobf zobg zobb zoas zoav zoax zoau zoaw) else (none)) else (none)) else (stowageref04_Disk_Wrong.j1 k bt309.2 0 zobc zobd zobe zobf zobg zobb zoas zoav zoax zoau zoaw))))
def stowageref04_Disk_Wrong.j1 : Nat → Bool → Int → List (S48) → List (S86) → Int → Bool → List (S90) → Int → Int → ByteArray → ByteArray → ByteArray → Int → Option (Int)
 | 0, _, _, _, _, _, _, _, _, _, _, _, _, _ => none
 | k + 1, x7, x8, zobc, zobd, zobe, zobf, zobg, zobb, zoas, zoav, zoax, zoau, zoaw => if zoas = 0 then (if zoau.toList = ([] : List UInt8) then (stowageref04_Disk_Wrong.j2 k x7 x8 false zobc zobd zobe zobf zobg zobb zoas zoav zoax zoau zoaw) else (if zobb ≥ 0 then ((stowageref04_Disk_Used.f k zobc zobd zobe zobf zobg zobb).bind fun t312 => (stowageref04_Disk_Wrong.j2 k x7 x8 (decide ((wrap64 (t312 + (zoau.size : Int))) > zobb)) zobc zobd zobe zobf zobg zobb zoas zoav zoax zoau zoaw)) else (stowageref04_Disk_Wrong.j2 k x7 x8 false zobc zobd zobe zobf zobg zobb zoas zoav zoax zoau zoaw))) else (stowageref04_Disk_Wrong.j2 k x7 x8 false zobc zobd zobe zobf zobg zobb zoas zoav zoax zoau zoaw)
def stowageref04_Disk_Wrong.j2 : Nat → Bool → Int → Bool → List (S48) → List (S86) → Int → Bool → List (S90) → Int → Int → ByteArray → ByteArray → ByteArray → Int → Option (Int)
 | 0, _, _, _, _, _, _, _, _, _, _, _, _, _, _ => none
 | k + 1, x7, x8, x42, zobc, zobd, zobe, zobf, zobg, zobb, zoas, zoav, zoax, zoau, zoaw => if x42 = true then (some 22) else (if zoas = 1 then (if (zoau.size : Int) > x8 then (if zobb ≥ 0 then ((stowageref04_Disk_Used.f k zobc zobd zobe zobf zobg zobb).bind fun t313 => (stowageref04_Disk_Wrong.j3 k x7 x8 (decide ((wrap64 ((wrap64 (t313 - x8)) + (zoau.size : Int))) > zobb)) zoas zoav zoax zoau zoaw)) else (stowageref04_Disk_Wrong.j3 k x7 x8 false zoas zoav zoax zoau zoaw)) else (stowageref04_Disk_Wrong.j3 k x7 x8 false zoas zoav zoax zoau zoaw)) else (stowageref04_Disk_Wrong.j3 k x7 x8 false zoas zoav zoax zoau zoaw))
def stowageref04_Disk_Wrong.j3 : Nat → Bool → Int → Bool → Int → ByteArray → ByteArray → ByteArray → Int → Option (Int)
 | 0, _, _, _, _, _, _, _, _ => none
 | k + 1, x7, x8, x67, zoas, zoav, zoax, zoau, zoaw => if x67 = true then (some 22) else (if zoas ≥ 2 then (stowageref04_Disk_Wrong.j4 k x8 (!x7) zoas zoav zoax zoau zoaw) else (stowageref04_Disk_Wrong.j4 k x8 false zoas zoav zoax zoau zoaw))
def stowageref04_Disk_Wrong.j4 : Nat → Int → Bool → Int → ByteArray → ByteArray → ByteArray → Int → Option (Int)
 | 0, _, _, _, _, _, _, _ => none
 | k + 1, x8, x96, zoas, zoav, zoax, zoau, zoaw => if x96 = true then (some 4) else (if zoas = 2 then (stowageref04_Disk_Wrong.j5 k x8 (zoav.toList == zoax.toList) zoas zoav zoax zoau zoaw) else (stowageref04_Disk_Wrong.j5 k x8 false zoas zoav zoax zoau zoaw))
def stowageref04_Disk_Wrong.j5 : Nat → Int → Bool → Int → ByteArray → ByteArray → ByteArray → Int → Option (Int)
 | 0, _, _, _, _, _, _, _ => none
 | k + 1, x8, x104, zoas, zoav, zoax, zoau, zoaw => if x104 = true then (some 1) else (if zoas = 4 then (if zoaw < 0 then (some 1) else (if zoaw > x8 then (some 1) else (some 0))) else (some 0))
end
def stowageref04_Disk_Wrong.f (k : Nat) (l0_0 : List (S48)) (l0_1 : List (S86)) (a0_2 : Int) (a0_3 : Bool) (l0_4 : List (S90)) (a0_5 : Int) (a1_0 : Int) (a1_1 : ByteArray) (a1_2 : ByteArray) (a1_3 : ByteArray) (a1_4 : Int) : Option (Int) := if a0_3 = true then (some 21) else ((stowageref04_Name.f k a1_1).bind fun t304 => (if t304 = true then (if a1_0 = 2 then ((stowageref04_Name.f k a1_2).bind fun t305 => (stowageref04_Disk_Wrong.j0 k (!t305) l0_0 l0_1 a0_2 a0_3 l0_4 a0_5 a1_0 a1_1 a1_2 a1_3 a1_4)) else (stowageref04_Disk_Wrong.j0 k false l0_0 l0_1 a0_2 a0_3 l0_4 a0_5 a1_0 a1_1 a1_2 a1_3 a1_4)) else (stowageref04_Disk_Wrong.j0 k true l0_0 l0_1 a0_2 a0_3 l0_4 a0_5 a1_0 a1_1 a1_2 a1_3 a1_4)))
def stowageref04_Disk_Wrong.T10 : Bool × List (List Nat × List Nat) := (true, [([], []), ([0], [0]), ([1], [1]), ([2], [2]), ([3], [3]), ([4, 3], [3, 4]), ([5, 3], [3, 5]), ([3, 6], [3, 6]), ([7, 3], [7]), ([8], [8]), ([9, 8], [8, 9]), ([10, 8], [8, 10]), ([8, 11], [8, 11]), ([12, 8], [12]), ([13], [13]), ([14, 13, 13], [13, 14]), ([13], [13]), ([16, 13], [13, 16]), ([17, 13], [13, 17]), ([15, 18, 13], [13, 15, 18]), ([13], [13]), ([20, 13], [13, 20]), ([19, 21, 13], [13, 19, 21]), ([13, 22], [13, 22]), ([23, 15], [23])])
def stowageref04_Disk_Wrong.B10 : List Nat := [0, 1, 3, 7, 15, 31, 63, 127, 255, 511, 1023, 2047, 4095, 8191, 16383, 32767, 16383, 81919, 212991, 524287, 16383, 1064959, 4194303, 8388607, 16777215]
theorem stowageref04_Disk_Wrong.tab10 : rtab .any (opsOf Try.f57 10) = stowageref04_Disk_Wrong.T10 := by kernel_rfl
theorem stowageref04_Disk_Wrong.bits10 : waitsOk stowageref04_Disk_Wrong.T10.2 stowageref04_Disk_Wrong.B10 = true := by kernel_rfl
def stowageref04_Disk_Wrong.T12 : Bool × List (List Nat × List Nat) := (true, [([], []), ([0], [0]), ([1], [1]), ([2], [2]), ([3], [3]), ([4, 3], [3, 4]), ([5, 3], [3, 5]), ([3], [3]), ([6, 7, 3], [3, 6, 7]), ([3, 8], [3, 8]), ([9, 3], [9]), ([10], [10]), ([11, 10], [10, 11]), ([12, 10], [10, 12]), ([10, 13], [10, 13]), ([14, 10], [14]), ([15], [15]), ([16, 15, 15], [15, 16]), ([15], [15]), ([17, 18, 15], [15, 17, 18]), ([15], [15]), ([20, 15], [15, 20]), ([21, 15], [15, 21]), ([19, 22, 15], [15, 19, 22]), ([15], [15]), ([24, 15], [15, 24]), ([23, 25, 15], [15, 23, 25]), ([15, 26], [15, 26]), ([27, 17], [27])])
def stowageref04_Disk_Wrong.B12 : List Nat := [0, 1, 3, 7, 15, 31, 63, 15, 255, 511, 1023, 2047, 4095, 8191, 16383, 32767, 65535, 131071, 65535, 524287, 65535, 1114111, 3211263, 8388607, 65535, 16842751, 67108863, 134217727, 268435455]
theorem stowageref04_Disk_Wrong.tab12 : rtab .any (opsOf Try.f57 12) = stowageref04_Disk_Wrong.T12 := by kernel_rfl
theorem stowageref04_Disk_Wrong.bits12 : waitsOk stowageref04_Disk_Wrong.T12.2 stowageref04_Disk_Wrong.B12 = true := by kernel_rfl
set_option maxHeartbeats 8000000 in
set_option maxRecDepth 100000 in
theorem stowageref04_Disk_Wrong.calls (k : Nat) (A0_0 : Option Addr) (c0_0 : Nat) (l0_0 : List (S48)) (A0_1 : Option Addr) (c0_1 : Nat) (l0_1 : List (S86)) (a0_2 : Int) (a0_3 : Bool) (A0_4 : Option Addr) (c0_4 : Nat) (l0_4 : List (S90)) (a0_5 : Int) (a1_0 : Int) (a1_1 : ByteArray) (a1_2 : ByteArray) (a1_3 : ByteArray) (a1_4 : Int) (r : Int) (w : World) (hr0_0 : Kd.C k48 w A0_0 l0_0.length l0_0) (hc0_0 : l0_0.length ≤ c0_0) (hr0_1 : Kd.C k86 w A0_1 l0_1.length l0_1) (hc0_1 : l0_1.length ≤ c0_1) (hr0_4 : Kd.C k90 w A0_4 l0_4.length l0_4) (hc0_4 : l0_4.length ≤ c0_4) (h : stowageref04_Disk_Wrong.f k l0_0 l0_1 a0_2 a0_3 l0_4 a0_5 a1_0 a1_1 a1_2 a1_3 a1_4 = some r) :
  Calls Try.prog 57 #[.agg #[.slice A0_0 l0_0.length c0_0, .slice A0_1 l0_1.length c0_1, .int .i64 a0_2, .bool a0_3, .slice A0_4 l0_4.length c0_4, .int .i64 a0_5], .agg #[.int .i64 a1_0, .string a1_1, .string a1_2, .string a1_3, .int .i64 a1_4]] w fun e w' => e = .returned (.int .i64 r) ∧ Below w.heap.size w w' := by
 have hu57 := Try.underlying57
 have hu86 := Try.underlying86
 have HR0_0 := zoam hr0_0
 have HC0_0 := zoam hc0_0
 clear hr0_0 hc0_0
 have HR0_1 := zoam hr0_1
 have HC0_1 := zoam hc0_1
 clear hr0_1 hc0_1
 have HR0_4 := zoam hr0_4
 have HC0_4 := zoam hc0_4
 clear hr0_4 hc0_4
 have HB := zoam (Below.refl w.heap.size w)
 have H : (if a0_3 = true then (some 21) else ((stowageref04_Name.f k a1_1).bind fun t304 => (if t304 = true then (if a1_0 = 2 then ((stowageref04_Name.f k a1_2).bind fun t305 => (stowageref04_Disk_Wrong.j0 k (!t305) l0_0 l0_1 a0_2 a0_3 l0_4 a0_5 a1_0 a1_1 a1_2 a1_3 a1_4)) else (stowageref04_Disk_Wrong.j0 k false l0_0 l0_1 a0_2 a0_3 l0_4 a0_5 a1_0 a1_1 a1_2 a1_3 a1_4)) else (stowageref04_Disk_Wrong.j0 k true l0_0 l0_1 a0_2 a0_3 l0_4 a0_5 a1_0 a1_1 a1_2 a1_3 a1_4)))) = some r := h
 clear h
 by_cases c3 : a0_3 = true
 ·subst c3
  have H1 : (some 21) = some r := by rw [if_pos rfl] at H; exact H
  clear H
  have H := H1
  clear H1
  obtain rfl := Option.some.inj H
  go_enter Try.func57, Try.ntmps57
  go_wp2_with (first | ((with_reducible refine gate_dst (N := 2) rfl ?_); (try (refine gate_guard (by rfl) ?_; dsimp only)); refine box_event ?hg (N := 2) ?hd (cs := #[.slice A0_0 l0_0.length c0_0, .slice A0_1 l0_1.length c0_1, .int .i64 a0_2, .bool true, .slice A0_4 l0_4.length c0_4, .int .i64 a0_5]) (t := 57) ?hr ?_; (case hd => rfl); (case hg => rfl); (case hr => first | (go_simp; done) | (go_simp; rfl)); intro zoaq hg w4 hbox hb; have n0_ := zoam (below_step (by repeat (first | (with_reducible first | exact HB.out | apply zoaj | apply zoah | apply zoai) | exact HB.out)) hb); have n1_ := zoam (hbox); have n2_ := zoam ((by rw [hg]; exact (below_size (by repeat (first | (with_reducible first | exact HB.out | apply zoaj | apply zoah | apply zoai) | exact HB.out))) : w.heap.size ≤ zoaq)); have n3_ := zoam ((by rw [hg]; exact (below_size (by repeat (first | (with_reducible first | exact HB.out | apply zoaj | apply zoah | apply zoai) | exact HB.out))) : w.heap.size ≤ zoaq)); clear HB; have HB := n0_; have zoao := n1_; have zoei := n2_; have zoar := n3_; clear n0_ n1_ n2_ n3_; clear hb hbox hg) | ((with_reducible refine gate_dst (N := 3) rfl ?_); (try (refine gate_guard (by rfl) ?_; dsimp only)); refine box_event ?hg (N := 3) ?hd (cs := #[.int .i64 a1_0, .string a1_1, .string a1_2, .string a1_3, .int .i64 a1_4]) (t := 86) ?hr ?_; (case hd => rfl); (case hg => rfl); (case hr => first | (go_simp; done) | (go_simp; rfl)); intro zoap hg w5 hbox hb; have n0_ := zoam (blk_below (g := zoaq) (o := .cells #[.slice A0_0 l0_0.length c0_0, .slice A0_1 l0_1.length c0_1, .int .i64 a0_2, .bool true, .slice A0_4 l0_4.length c0_4, .int .i64 a0_5] 57 (0, 0)) (zbk zoao) hb); have n1_ := zoam (below_step (by repeat (first | (with_reducible first | exact HB.out | apply zoaj | apply zoah | apply zoai | refine zoag ?_ zoar.out) | exact HB.out)) hb); have n2_ := zoam (hbox); have n3_ := zoam ((by rw [hg]; exact (below_size (by repeat (first | (with_reducible first | exact HB.out | apply zoaj | apply zoah | apply zoai | refine zoag ?_ zoar.out) | exact HB.out))) : w.heap.size ≤ zoap)); have n4_ := zoam ((by rw [hg]; exact (below_size (by repeat (first | (with_reducible first | exact HB.out | apply zoaj | apply zoah | apply zoai | refine zoag ?_ zoar.out) | exact HB.out))) : w.heap.size ≤ zoap)); have n5_ := zoam ((by rw [hg]; exact Nat.ne_of_lt (blk_lt (g := zoaq) (o := .cells #[.slice A0_0 l0_0.length c0_0, .slice A0_1 l0_1.length c0_1, .int .i64 a0_2, .bool true, .slice A0_4 l0_4.length c0_4, .int .i64 a0_5] 57 (0, 0)) (zbk zoao)) : zoaq ≠ zoap)); have n6_ := zoam ((by rw [hg]; exact Nat.ne_of_gt (blk_lt (g := zoaq) (o := .cells #[.slice A0_0 l0_0.length c0_0, .slice A0_1 l0_1.length c0_1, .int .i64 a0_2, .bool true, .slice A0_4 l0_4.length c0_4, .int .i64 a0_5] 57 (0, 0)) (zbk zoao)) : zoap ≠ zoaq)); clear zoao; clear HB; have zoao := n0_; have HB := n1_; have zoan := n2_; have zoej := n3_; have zoat := n4_; have zoaz := n5_; have zoba := n6_; clear n0_ n1_ n2_ n3_ n4_ n5_ n6_; clear hb hbox hg; have hnb6 := zoaz.out; have hnc6 := zoba.out; have zodw : w5.cell? ⟨zoaq, 0, none⟩ = some (.slice A0_0 l0_0.length c0_0) := (zoak zoao.out 0).trans rfl; have zodx : w5.cell? ⟨zoaq, 1, none⟩ = some (.slice A0_1 l0_1.length c0_1) := (zoak zoao.out 1).trans rfl; have zody : w5.cell? ⟨zoaq, 2, none⟩ = some (.int .i64 a0_2) := (zoak zoao.out 2).trans rfl; have zodz : w5.cell? ⟨zoaq, 3, none⟩ = some (.bool true) := (zoak zoao.out 3).trans rfl; have zoea : w5.cell? ⟨zoaq, 4, none⟩ = some (.slice A0_4 l0_4.length c0_4) := (zoak zoao.out 4).trans rfl; have zoeb : w5.cell? ⟨zoaq, 5, none⟩ = some (.int .i64 a0_5) := (zoak zoao.out 5).trans rfl; have zoec := zoal zoao.out 0; have zoed := zoal zoao.out 1; have zoee := zoal zoao.out 2; have zoef := zoal zoao.out 3; have zoeg := zoal zoao.out 4; have zoeh := zoal zoao.out 5))
  go_ret
  exact ⟨by first | rfl | (simp [errW_none, errW_some] <;> rfl) | (simp [*, errW_none, errW_some] <;> rfl), by repeat (first | (with_reducible first | exact HB.out | apply zoaj | apply zoah | apply zoai | refine zoag ?_ zoar.out | refine zoag ?_ zoat.out) | exact HB.out)⟩
 ·replace c3 := Bool.eq_false_iff.mpr c3
  subst c3
  have H1 : ((stowageref04_Name.f k a1_1).bind fun t304 => (if t304 = true then (if a1_0 = 2 then ((stowageref04_Name.f k a1_2).bind fun t305 => (stowageref04_Disk_Wrong.j0 k (!t305) l0_0 l0_1 a0_2 false l0_4 a0_5 a1_0 a1_1 a1_2 a1_3 a1_4)) else (stowageref04_Disk_Wrong.j0 k false l0_0 l0_1 a0_2 false l0_4 a0_5 a1_0 a1_1 a1_2 a1_3 a1_4)) else (stowageref04_Disk_Wrong.j0 k true l0_0 l0_1 a0_2 false l0_4 a0_5 a1_0 a1_1 a1_2 a1_3 a1_4))) = some r := by rw [if_neg (show ¬ (false = true) by decide)] at H; exact H
  clear H
  have H := H1
  clear H1
  have HC8 := zoam H
  clear H
  go_enter Try.func57, Try.ntmps57
  go_upto_region 3 with (first | ((with_reducible refine gate_dst (N := 2) rfl ?_); (try (refine gate_guard (by rfl) ?_; dsimp only)); refine box_event ?hg (N := 2) ?hd (cs := #[.slice A0_0 l0_0.length c0_0, .slice A0_1 l0_1.length c0_1, .int .i64 a0_2, .bool false, .slice A0_4 l0_4.length c0_4, .int .i64 a0_5]) (t := 57) ?hr ?_; (case hd => rfl); (case hg => rfl); (case hr => first | (go_simp; done) | (go_simp; rfl)); intro zoaq hg w9 hbox hb; have n0_ := zoam (below_step (by repeat (first | (with_reducible first | exact HB.out | apply zoaj | apply zoah | apply zoai) | exact HB.out)) hb); have n1_ := zoam (hbox); have n2_ := zoam ((by rw [hg]; exact (below_size (by repeat (first | (with_reducible first | exact HB.out | apply zoaj | apply zoah | apply zoai) | exact HB.out))) : w.heap.size ≤ zoaq)); have n3_ := zoam ((by rw [hg]; exact (below_size (by repeat (first | (with_reducible first | exact HB.out | apply zoaj | apply zoah | apply zoai) | exact HB.out))) : w.heap.size ≤ zoaq)); clear HB; have HB := n0_; have zoao := n1_; have zoei := n2_; have zoar := n3_; clear n0_ n1_ n2_ n3_; clear hb hbox hg) | ((with_reducible refine gate_dst (N := 3) rfl ?_); (try (refine gate_guard (by rfl) ?_; dsimp only)); refine box_event ?hg (N := 3) ?hd (cs := #[.int .i64 a1_0, .string a1_1, .string a1_2, .string a1_3, .int .i64 a1_4]) (t := 86) ?hr ?_; (case hd => rfl); (case hg => rfl); (case hr => first | (go_simp; done) | (go_simp; rfl)); intro zoap hg w10 hbox hb; have n0_ := zoam (blk_below (g := zoaq) (o := .cells #[.slice A0_0 l0_0.length c0_0, .slice A0_1 l0_1.length c0_1, .int .i64 a0_2, .bool false, .slice A0_4 l0_4.length c0_4, .int .i64 a0_5] 57 (0, 0)) (zbk zoao) hb); have n1_ := zoam (below_step (by repeat (first | (with_reducible first | exact HB.out | apply zoaj | apply zoah | apply zoai | refine zoag ?_ zoar.out) | exact HB.out)) hb); have n2_ := zoam (hbox); have n3_ := zoam ((by rw [hg]; exact (below_size (by repeat (first | (with_reducible first | exact HB.out | apply zoaj | apply zoah | apply zoai | refine zoag ?_ zoar.out) | exact HB.out))) : w.heap.size ≤ zoap)); have n4_ := zoam ((by rw [hg]; exact (below_size (by repeat (first | (with_reducible first | exact HB.out | apply zoaj | apply zoah | apply zoai | refine zoag ?_ zoar.out) | exact HB.out))) : w.heap.size ≤ zoap)); have n5_ := zoam ((by rw [hg]; exact Nat.ne_of_lt (blk_lt (g := zoaq) (o := .cells #[.slice A0_0 l0_0.length c0_0, .slice A0_1 l0_1.length c0_1, .int .i64 a0_2, .bool false, .slice A0_4 l0_4.length c0_4, .int .i64 a0_5] 57 (0, 0)) (zbk zoao)) : zoaq ≠ zoap)); have n6_ := zoam ((by rw [hg]; exact Nat.ne_of_gt (blk_lt (g := zoaq) (o := .cells #[.slice A0_0 l0_0.length c0_0, .slice A0_1 l0_1.length c0_1, .int .i64 a0_2, .bool false, .slice A0_4 l0_4.length c0_4, .int .i64 a0_5] 57 (0, 0)) (zbk zoao)) : zoap ≠ zoaq)); clear zoao; clear HB; have zoao := n0_; have HB := n1_; have zoan := n2_; have zoej := n3_; have zoat := n4_; have zoaz := n5_; have zoba := n6_; clear n0_ n1_ n2_ n3_ n4_ n5_ n6_; clear hb hbox hg; have hnb11 := zoaz.out; have hnc11 := zoba.out; have zobm : w10.cell? ⟨zoaq, 0, none⟩ = some (.slice A0_0 l0_0.length c0_0) := (zoak zoao.out 0).trans rfl; have zobn : w10.cell? ⟨zoaq, 1, none⟩ = some (.slice A0_1 l0_1.length c0_1) := (zoak zoao.out 1).trans rfl; have zobo : w10.cell? ⟨zoaq, 2, none⟩ = some (.int .i64 a0_2) := (zoak zoao.out 2).trans rfl; have zobp : w10.cell? ⟨zoaq, 3, none⟩ = some (.bool false) := (zoak zoao.out 3).trans rfl; have zobq : w10.cell? ⟨zoaq, 4, none⟩ = some (.slice A0_4 l0_4.length c0_4) := (zoak zoao.out 4).trans rfl; have zobr : w10.cell? ⟨zoaq, 5, none⟩ = some (.int .i64 a0_5) := (zoak zoao.out 5).trans rfl; have zobs := zoal zoao.out 0; have zobt := zoal zoao.out 1; have zobu := zoal zoao.out 2; have zobv := zoal zoao.out 3; have zobw := zoal zoao.out 4; have zobx := zoal zoao.out 5))
  (try simp only [Act.put, zoaa, zoab, zoac])
  go_cut [25] (fun v25 wc => ∃ (kq : Nat) (zobl : Bool), v25 = .bool zobl ∧ Aside0 (stowageref04_Disk_Wrong.j0 kq zobl l0_0 l0_1 a0_2 false l0_4 a0_5 a1_0 a1_1 a1_2 a1_3 a1_4 = some r) ∧ Aside0 (kq ≤ k) ∧ Aside0 (wc.heap[zoaq]? = some (.cells #[(.slice A0_0 l0_0.length c0_0), (.slice A0_1 l0_1.length c0_1), .int .i64 a0_2, .bool false, (.slice A0_4 l0_4.length c0_4), .int .i64 a0_5] 57 (0, 0))) ∧ Aside0 (wc.heap[zoap]? = some (.cells #[.int .i64 a1_0, .string a1_1, .string a1_2, .string a1_3, .int .i64 a1_4] 86 (0, 0))) ∧ Aside0 (Below w.heap.size w wc))
  case first =>
   have H := HC8.out
   clear HC8
   replace H := Option.bind_eq_some_iff.mp H
   obtain ⟨t304, A130, H⟩ := H
   replace H : (if t304 = true then (if a1_0 = 2 then ((stowageref04_Name.f k a1_2).bind fun t305 => (stowageref04_Disk_Wrong.j0 k (!t305) l0_0 l0_1 a0_2 false l0_4 a0_5 a1_0 a1_1 a1_2 a1_3 a1_4)) else (stowageref04_Disk_Wrong.j0 k false l0_0 l0_1 a0_2 false l0_4 a0_5 a1_0 a1_1 a1_2 a1_3 a1_4)) else (stowageref04_Disk_Wrong.j0 k true l0_0 l0_1 a0_2 false l0_4 a0_5 a1_0 a1_1 a1_2 a1_3 a1_4)) = some r := H
   have A13 := zoam A130
   clear A130
   by_cases c14 : t304 = true
   ·subst c14
    have H1 : (if a1_0 = 2 then ((stowageref04_Name.f k a1_2).bind fun t305 => (stowageref04_Disk_Wrong.j0 k (!t305) l0_0 l0_1 a0_2 false l0_4 a0_5 a1_0 a1_1 a1_2 a1_3 a1_4)) else (stowageref04_Disk_Wrong.j0 k false l0_0 l0_1 a0_2 false l0_4 a0_5 a1_0 a1_1 a1_2 a1_3 a1_4)) = some r := by rw [if_pos rfl] at H; exact H
    clear H
    have H := H1
    clear H1
    by_cases c15 : a1_0 = 2
    ·rw [if_pos c15] at H
     have c15b0 : (a1_0 == 2) = true := beq_iff_eq.mpr c15
     have c15b1 : (a1_0 != 2) = false := bne_eq_false_iff_eq.mpr c15
     clear c15
     (first | rw [c15b0] | (simp only [i64_w, i32_w]; rw [c15b0]) | skip)
     replace H := Option.bind_eq_some_iff.mp H
     obtain ⟨t305, A160, H⟩ := H
     replace H : (stowageref04_Disk_Wrong.j0 k (!t305) l0_0 l0_1 a0_2 false l0_4 a0_5 a1_0 a1_1 a1_2 a1_3 a1_4) = some r := H
     have A16 := zoam A160
     clear A160
     have H' := zoam H
     clear H
     have hnb17 := zoba.out
     have hnc17 := zoaz.out
     have zoby : w10.cell? ⟨zoap, 0, none⟩ = some (.int .i64 a1_0) := (zoak zoan.out 0).trans rfl
     have zobz : w10.cell? ⟨zoap, 1, none⟩ = some (.string a1_1) := (zoak zoan.out 1).trans rfl
     have zoca : w10.cell? ⟨zoap, 2, none⟩ = some (.string a1_2) := (zoak zoan.out 2).trans rfl
     have zocb : w10.cell? ⟨zoap, 3, none⟩ = some (.string a1_3) := (zoak zoan.out 3).trans rfl
     have zocc : w10.cell? ⟨zoap, 4, none⟩ = some (.int .i64 a1_4) := (zoak zoan.out 4).trans rfl
     have zocd := zoal zoan.out 0
     have zoce := zoal zoan.out 1
     have zocf := zoal zoan.out 2
     have zocg := zoal zoan.out 3
     have zoch := zoal zoan.out 4
     go_wp2_with (first | ((with_reducible refine gate_callee (f := 32) rfl ?_); refine goesL_ (some 13) rfl rfl Try.func32 (by kernel_rfl) rfl #[.string a1_1] rfl (by (try simp only [List.map_toArray, List.map_cons, List.map_nil]); first | done | rfl) ?_; (with_reducible refine (stowageref04_Name.calls k a1_1 true _ A13.out).mono ?_); rintro e w' ⟨rfl, ⟨nd, rfl⟩⟩; refine ⟨_, rfl, ?_⟩) | (go_at_call 32; (with_reducible refine (stowageref04_Name.calls k a1_2 t305 _ A16.out).mono ?_); rintro e w' ⟨rfl, ⟨nd, rfl⟩⟩))
     go_meet
     case rel => exact ⟨_, (!t305), (by first | rfl | (simp; done) | (simp [*]; done)), H', ⟨by first | omega | exact Nat.le_refl _⟩, ⟨zbk zoao⟩, ⟨zbk zoan⟩, ⟨by repeat (first | (with_reducible first | exact HB.out | apply zoaj | apply zoah | apply zoai | refine zoag ?_ zoar.out | refine zoag ?_ zoat.out) | exact HB.out)⟩⟩
    ·rw [if_neg c15] at H
     have c15b0 : (a1_0 == 2) = false := beq_eq_false_iff_ne.mpr c15
     have c15b1 : (a1_0 != 2) = true := bne_iff_ne.mpr c15
     (first | rw [c15b0] | (simp only [i64_w, i32_w]; rw [c15b0]) | skip)
     have H' := zoam H
     clear H
     have hnb19 := zoba.out
     have hnc19 := zoaz.out
     have zoci : w10.cell? ⟨zoap, 0, none⟩ = some (.int .i64 a1_0) := (zoak zoan.out 0).trans rfl
     have zocj : w10.cell? ⟨zoap, 1, none⟩ = some (.string a1_1) := (zoak zoan.out 1).trans rfl
     have zock : w10.cell? ⟨zoap, 2, none⟩ = some (.string a1_2) := (zoak zoan.out 2).trans rfl
     have zocl : w10.cell? ⟨zoap, 3, none⟩ = some (.string a1_3) := (zoak zoan.out 3).trans rfl
     have zocm : w10.cell? ⟨zoap, 4, none⟩ = some (.int .i64 a1_4) := (zoak zoan.out 4).trans rfl
     have zocn := zoal zoan.out 0
     have zoco := zoal zoan.out 1
     have zocp := zoal zoan.out 2
     have zocq := zoal zoan.out 3
     have zocr := zoal zoan.out 4
     go_wp2_with (first | ((with_reducible refine gate_callee (f := 32) rfl ?_); refine goesL_ (some 13) rfl rfl Try.func32 (by kernel_rfl) rfl #[.string a1_1] rfl (by (try simp only [List.map_toArray, List.map_cons, List.map_nil]); first | done | rfl) ?_; (with_reducible refine (stowageref04_Name.calls k a1_1 true _ A13.out).mono ?_); rintro e w' ⟨rfl, ⟨nd, rfl⟩⟩; refine ⟨_, rfl, ?_⟩))
     go_meet
     case rel => exact ⟨_, (false), (by first | rfl | (simp; done) | (simp [*]; done)), H', ⟨by first | omega | exact Nat.le_refl _⟩, ⟨zbk zoao⟩, ⟨zbk zoan⟩, ⟨by repeat (first | (with_reducible first | exact HB.out | apply zoaj | apply zoah | apply zoai | refine zoag ?_ zoar.out | refine zoag ?_ zoat.out) | exact HB.out)⟩⟩
   ·replace c14 := Bool.eq_false_iff.mpr c14
    subst c14
    have H1 : (stowageref04_Disk_Wrong.j0 k true l0_0 l0_1 a0_2 false l0_4 a0_5 a1_0 a1_1 a1_2 a1_3 a1_4) = some r := by rw [if_neg (show ¬ (false = true) by decide)] at H; exact H
    clear H
    have H := H1
    clear H1
    have H' := zoam H
    clear H
    have hnb21 := zoba.out
    have hnc21 := zoaz.out
    have zocs : w10.cell? ⟨zoap, 0, none⟩ = some (.int .i64 a1_0) := (zoak zoan.out 0).trans rfl
    have zoct : w10.cell? ⟨zoap, 1, none⟩ = some (.string a1_1) := (zoak zoan.out 1).trans rfl
    have zocu : w10.cell? ⟨zoap, 2, none⟩ = some (.string a1_2) := (zoak zoan.out 2).trans rfl
    have zocv : w10.cell? ⟨zoap, 3, none⟩ = some (.string a1_3) := (zoak zoan.out 3).trans rfl
    have zocw : w10.cell? ⟨zoap, 4, none⟩ = some (.int .i64 a1_4) := (zoak zoan.out 4).trans rfl
    have zocx := zoal zoan.out 0
    have zocy := zoal zoan.out 1
    have zocz := zoal zoan.out 2
    have zoda := zoal zoan.out 3
    have zodb := zoal zoan.out 4
    go_wp2_with (first | ((with_reducible refine gate_callee (f := 32) rfl ?_); refine goesL_ (some 13) rfl rfl Try.func32 (by kernel_rfl) rfl #[.string a1_1] rfl (by (try simp only [List.map_toArray, List.map_cons, List.map_nil]); first | done | rfl) ?_; (with_reducible refine (stowageref04_Name.calls k a1_1 false _ A13.out).mono ?_); rintro e w' ⟨rfl, ⟨nd, rfl⟩⟩; refine ⟨_, rfl, ?_⟩))
    go_meet
    case rel => exact ⟨_, (true), (by first | rfl | (simp; done) | (simp [*]; done)), H', ⟨by first | omega | exact Nat.le_refl _⟩, ⟨zbk zoao⟩, ⟨zbk zoan⟩, ⟨by repeat (first | (with_reducible first | exact HB.out | apply zoaj | apply zoah | apply zoai | refine zoag ?_ zoar.out | refine zoag ?_ zoat.out) | exact HB.out)⟩⟩
  case rest =>
   clear HC8
   try clear c1
   try clear c2
   try clear p2
   try clear c3
   try clear c5
   try clear c6
   try clear p6
   try clear c11
   try clear c14
   try clear c15
   try clear c15b0
   try clear c15b1
   try clear c17
   try clear c19
   try clear c21
   try clear zobm
   try clear zobn
   try clear zobo
   try clear zobp
   try clear zobq
   try clear zobr
   try clear zoby
   try clear zobz
   try clear zoca
   try clear zocb
   try clear zocc
   try clear zoci
   try clear zocj
   try clear zock
   try clear zocl
   try clear zocm
   try clear zocs
   try clear zoct
   try clear zocu
   try clear zocv
   try clear zocw
   try clear zodw
   try clear zodx
   try clear zody
   try clear zodz
   try clear zoea
   try clear zoeb
   try clear zobs
   try clear zobt
   try clear zobu
   try clear zobv
   try clear zobw
   try clear zobx
   try clear zocd
   try clear zoce
   try clear zocf
   try clear zocg
   try clear zoch
   try clear zocn
   try clear zoco
   try clear zocp
   try clear zocq
   try clear zocr
   try clear zocx
   try clear zocy
   try clear zocz
   try clear zoda
   try clear zodb
   try clear zoec
   try clear zoed
   try clear zoee
   try clear zoef
   try clear zoeg
   try clear zoeh
   obtain ⟨kq, zobl, rfl, HA, HJ7, zoao, zoan, HB⟩ := hcut
   cases kq with
   | zero => exact absurd HA.out (by simp [stowageref04_Disk_Wrong.j0])
   | succ kj7 =>
    have H := HA.out
    clear HA
    simp only [stowageref04_Disk_Wrong.j0] at H
    by_cases c23 : zobl = true
    ·subst c23
     have H1 : (some 20) = some r := by rw [if_pos rfl] at H; exact H
     clear H
     have H := H1
     clear H1
     obtain rfl := Option.some.inj H
     go_wp2
     go_ret
     exact ⟨by first | rfl | (simp [errW_none, errW_some] <;> rfl) | (simp [*, errW_none, errW_some] <;> rfl), by repeat (first | (with_reducible first | exact HB.out | apply zoaj | apply zoah | apply zoai | refine zoag ?_ zoar.out | refine zoag ?_ zoat.out) | exact HB.out)⟩
    ·replace c23 := Bool.eq_false_iff.mpr c23
     subst c23
     have H1 : ((stowageref04_Disk_Now.f kj7 l0_0 l0_1 a0_2 false l0_4 a0_5).bind fun t306 => ((stowageref04_Find.f kj7 t306 a1_1).bind fun bt309 => (if bt309.2 = true then (if 0 ≤ bt309.1 then (if bt309.1 < (t306.length : Int) then (stowageref04_Disk_Wrong.j1 kj7 bt309.2 (((rd_T48 t306 bt309.1).f1).size : Int) l0_0 l0_1 a0_2 false l0_4 a0_5 a1_0 a1_1 a1_2 a1_3 a1_4) else (none)) else (none)) else (stowageref04_Disk_Wrong.j1 kj7 bt309.2 0 l0_0 l0_1 a0_2 false l0_4 a0_5 a1_0 a1_1 a1_2 a1_3 a1_4)))) = some r := by rw [if_neg (show ¬ (false = true) by decide)] at H; exact H
     clear H
     have H := H1
     clear H1
     replace H := Option.bind_eq_some_iff.mp H
     obtain ⟨t306, A240, H⟩ := H
     replace H : ((stowageref04_Find.f kj7 t306 a1_1).bind fun bt309 => (if bt309.2 = true then (if 0 ≤ bt309.1 then (if bt309.1 < (t306.length : Int) then (stowageref04_Disk_Wrong.j1 kj7 bt309.2 (((rd_T48 t306 bt309.1).f1).size : Int) l0_0 l0_1 a0_2 false l0_4 a0_5 a1_0 a1_1 a1_2 a1_3 a1_4) else (none)) else (none)) else (stowageref04_Disk_Wrong.j1 kj7 bt309.2 0 l0_0 l0_1 a0_2 false l0_4 a0_5 a1_0 a1_1 a1_2 a1_3 a1_4))) = some r := H
     have A24 := zoam A240
     clear A240
     replace H := Option.bind_eq_some_iff.mp H
     obtain ⟨⟨t309, t310⟩, A250, H⟩ := H
     replace H : (if t310 = true then (if 0 ≤ t309 then (if t309 < (t306.length : Int) then (stowageref04_Disk_Wrong.j1 kj7 t310 (((rd_T48 t306 t309).f1).size : Int) l0_0 l0_1 a0_2 false l0_4 a0_5 a1_0 a1_1 a1_2 a1_3 a1_4) else (none)) else (none)) else (stowageref04_Disk_Wrong.j1 kj7 t310 0 l0_0 l0_1 a0_2 false l0_4 a0_5 a1_0 a1_1 a1_2 a1_3 a1_4)) = some r := H
     have A25 := zoam A250
     clear A250
     have HC26 := zoam H
     clear H
     have hnb27 := zoaz.out
     have hnc27 := zoba.out
     have zoek : wc.cell? ⟨zoaq, 0, none⟩ = some (.slice A0_0 l0_0.length c0_0) := (zoak zoao.out 0).trans rfl
     have zoel : wc.cell? ⟨zoaq, 1, none⟩ = some (.slice A0_1 l0_1.length c0_1) := (zoak zoao.out 1).trans rfl
     have zoem : wc.cell? ⟨zoaq, 2, none⟩ = some (.int .i64 a0_2) := (zoak zoao.out 2).trans rfl
     have zoen : wc.cell? ⟨zoaq, 3, none⟩ = some (.bool false) := (zoak zoao.out 3).trans rfl
     have zoeo : wc.cell? ⟨zoaq, 4, none⟩ = some (.slice A0_4 l0_4.length c0_4) := (zoak zoao.out 4).trans rfl
     have zoep : wc.cell? ⟨zoaq, 5, none⟩ = some (.int .i64 a0_5) := (zoak zoao.out 5).trans rfl
     have zoeq := zoal zoao.out 0
     have zoer := zoal zoao.out 1
     have zoes := zoal zoao.out 2
     have zoet := zoal zoao.out 3
     have zoeu := zoal zoao.out 4
     have zoev := zoal zoao.out 5
     go_upto_if 35 with (first | ((with_reducible refine gate_callee (f := 49) rfl ?_); refine goesL_ (some 27) rfl rfl Try.func49 (by kernel_rfl) rfl #[.agg #[.slice A0_0 l0_0.length c0_0, .slice A0_1 l0_1.length c0_1, .int .i64 a0_2, .bool false, .slice A0_4 l0_4.length c0_4, .int .i64 a0_5]] rfl (by (try simp only [List.map_toArray, List.map_cons, List.map_nil]); first | done | rfl) ?_; (with_reducible refine (stowageref04_Disk_Now.calls kj7 (fun k_ => k_ < w.heap.size) _ _ l0_0 _ _ l0_1 a0_2 false _ _ l0_4 a0_5 t306 _ ?side1 ?side2 ?side3 ?side4 ?side5 A24.out).mono ?_); (case side1 => exact Kd.V_mk HC0_0.out (Kd.F_below (Kd.C_F k48_heap HR0_0.out) (by repeat (first | (with_reducible first | exact HB.out | apply zoaj | apply zoah | apply zoai | refine zoag ?_ zoar.out | refine zoag ?_ zoat.out) | exact HB.out)))); (case side2 => repeat (first | exact (Kd.C_below HR0_1.out HB.out) | (with_reducible refine Kd.C_alloc ?_ _) | (with_reducible refine Kd.C_drewN ?_ _) | (with_reducible refine Kd.C_drew ?_))); (case side3 => exact HC0_1.out); (case side4 => repeat (first | exact (Kd.C_below HR0_4.out HB.out) | (with_reducible refine Kd.C_alloc ?_ _) | (with_reducible refine Kd.C_drewN ?_ _) | (with_reducible refine Kd.C_drew ?_))); (case side5 => exact HC0_4.out); rintro e w29 ⟨v307, rfl, ho0, hb⟩; refine ⟨_, rfl, ?_⟩; have n0_ := zoam (Kd.V_lower (Kd.V_mono (ok' := fun k_ => k_ ≠ zoaq ∧ k_ ≠ zoap) ho0 (fun k_ hk_ => ⟨Or.elim hk_ (fun hs_ => fun e_ => Nat.not_le.2 hs_ (by rw [e_]; exact zoei.out)) (fun hn_ => (Kd.freshB (g := zoaq) (o := .cells #[.slice A0_0 l0_0.length c0_0, .slice A0_1 l0_1.length c0_1, .int .i64 a0_2, .bool false, .slice A0_4 l0_4.length c0_4, .int .i64 a0_5] 57 (0, 0)) (zbk zoao) k_ hn_)), Or.elim hk_ (fun hs_ => fun e_ => Nat.not_le.2 hs_ (by rw [e_]; exact zoej.out)) (fun hn_ => (Kd.freshB (g := zoap) (o := .cells #[.int .i64 a1_0, .string a1_1, .string a1_2, .string a1_3, .int .i64 a1_4] 86 (0, 0)) (zbk zoan) k_ hn_))⟩)) (below_size (by repeat (first | (with_reducible first | exact HB.out | apply zoaj | apply zoah | apply zoai | refine zoag ?_ zoar.out | refine zoag ?_ zoat.out) | exact HB.out)))); have n1_ := zoam (blk_below (g := zoaq) (o := .cells #[.slice A0_0 l0_0.length c0_0, .slice A0_1 l0_1.length c0_1, .int .i64 a0_2, .bool false, .slice A0_4 l0_4.length c0_4, .int .i64 a0_5] 57 (0, 0)) (zbk zoao) hb); have n2_ := zoam (blk_below (g := zoap) (o := .cells #[.int .i64 a1_0, .string a1_1, .string a1_2, .string a1_3, .int .i64 a1_4] 86 (0, 0)) (zbk zoan) hb); have n3_ := zoam (below_step (by repeat (first | (with_reducible first | exact HB.out | apply zoaj | apply zoah | apply zoai | refine zoag ?_ zoar.out | refine zoag ?_ zoat.out) | exact HB.out)) hb); clear zoao; clear zoan; clear HB; have HO308 := n0_; have zoao := n1_; have zoan := n2_; have HB := n3_; clear n0_ n1_ n2_ n3_; (try clear hb); (try clear hk); (try clear hi); (try clear ho0); have zoew : w29.cell? ⟨zoap, 0, none⟩ = some (.int .i64 a1_0) := (zoak zoan.out 0).trans rfl; have zoex : w29.cell? ⟨zoap, 1, none⟩ = some (.string a1_1) := (zoak zoan.out 1).trans rfl; have zoey : w29.cell? ⟨zoap, 2, none⟩ = some (.string a1_2) := (zoak zoan.out 2).trans rfl; have zoez : w29.cell? ⟨zoap, 3, none⟩ = some (.string a1_3) := (zoak zoan.out 3).trans rfl; have zofa : w29.cell? ⟨zoap, 4, none⟩ = some (.int .i64 a1_4) := (zoak zoan.out 4).trans rfl; have zofb := zoal zoan.out 0; have zofc := zoal zoan.out 1; have zofd := zoal zoan.out 2; have zofe := zoal zoan.out 3; have zoff := zoal zoan.out 4; obtain ⟨Ao31, co31, eo31⟩ := Kd.V_slice HO308.out; subst eo31) | ((with_reducible refine gate_callee (f := 59) rfl ?_); refine goesL_ (some 32) rfl rfl Try.func59 (by kernel_rfl) rfl #[.slice Ao31 t306.length co31, .string a1_1] rfl (by (try simp only [List.map_toArray, List.map_cons, List.map_nil]); first | done | rfl) ?_; (with_reducible refine (stowageref04_Find.calls kj7 _ _ t306 a1_1 t309 t310 _ ?side1 ?side2 A25.out).mono ?_); (case side1 => repeat (first | exact (Kd.V_reads' HO308.out).2.2 | (with_reducible refine Kd.C_alloc ?_ _) | (with_reducible refine Kd.C_drewN ?_ _) | (with_reducible refine Kd.C_drew ?_))); (case side2 => exact (Kd.V_reads' HO308.out).2.1); rintro e w' ⟨rfl, ⟨nd, rfl⟩⟩; refine ⟨_, rfl, ?_⟩))
     (try simp only [Act.put, zoaa, zoab, zoac])
     go_cut [8] (fun v8 wc => ∃ (kq : Nat) (zoay : Int), v8 = .int .i64 zoay ∧ Aside0 (stowageref04_Disk_Wrong.j1 kq t310 zoay l0_0 l0_1 a0_2 false l0_4 a0_5 a1_0 a1_1 a1_2 a1_3 a1_4 = some r) ∧ Aside0 (kq ≤ kj7) ∧ Aside0 (wc.heap[zoaq]? = some (.cells #[(.slice A0_0 l0_0.length c0_0), (.slice A0_1 l0_1.length c0_1), .int .i64 a0_2, .bool false, (.slice A0_4 l0_4.length c0_4), .int .i64 a0_5] 57 (0, 0))) ∧ Aside0 (wc.heap[zoap]? = some (.cells #[.int .i64 a1_0, .string a1_1, .string a1_2, .string a1_3, .int .i64 a1_4] 86 (0, 0))) ∧ Aside0 (Below w.heap.size w wc))
     case first =>
      have H := HC26.out
      clear HC26
      by_cases c32 : t310 = true
      ·subst c32
       have H1 : (if 0 ≤ t309 then (if t309 < (t306.length : Int) then (stowageref04_Disk_Wrong.j1 kj7 true (((rd_T48 t306 t309).f1).size : Int) l0_0 l0_1 a0_2 false l0_4 a0_5 a1_0 a1_1 a1_2 a1_3 a1_4) else (none)) else (none)) = some r := by rw [if_pos rfl] at H; exact H
       clear H
       have H := H1
       clear H1
       by_cases c33 : 0 ≤ t309
       ·rw [if_pos c33] at H
        have c33b0 : decide (0 ≤ t309) = true := decide_eq_true c33
        clear c33
        (first | rw [c33b0] | (simp only [i64_w, i32_w]; rw [c33b0]) | skip)
        by_cases c34 : t309 < (t306.length : Int)
        ·rw [if_pos c34] at H
         have c34b0 : decide (t309 < (t306.length : Int)) = true := decide_eq_true c34
         clear c34
         have H' := zoam H
         clear H
         have p311 : 0 ≤ (t309 : Int) := of_decide_eq_true (by first | (with_reducible assumption) | assumption)
         have q311 : t309 < (t306.length : Int) := of_decide_eq_true (by first | (with_reducible assumption) | assumption)
         obtain ⟨ad311, e311, hx311_0, hx311_1⟩ := at_T48 (Kd.V_reads' HO308.out).2.2 t309 p311 q311
         cases e311
         replace p311 := eq_true p311
         replace q311 := eq_true q311
         go_wp2
         go_meet
         case rel => exact ⟨_, ((((rd_T48 t306 t309).f1).size : Int)), (by first | rfl | (simp; done) | (simp [*]; done)), H', ⟨by have := HJ7.out; first | omega | exact Nat.le_refl _⟩, ⟨zbk zoao⟩, ⟨zbk zoan⟩, ⟨by repeat (first | (with_reducible first | exact HB.out | apply zoaj | apply zoah | apply zoai | refine zoag ?_ zoar.out | refine zoag ?_ zoat.out) | exact HB.out)⟩⟩
        ·rw [if_neg c34] at H
         exact absurd H (by simp)
       ·rw [if_neg c33] at H
        exact absurd H (by simp)
      ·replace c32 := Bool.eq_false_iff.mpr c32
       subst c32
       have H1 : (stowageref04_Disk_Wrong.j1 kj7 false 0 l0_0 l0_1 a0_2 false l0_4 a0_5 a1_0 a1_1 a1_2 a1_3 a1_4) = some r := by rw [if_neg (show ¬ (false = true) by decide)] at H; exact H
       clear H
       have H := H1
       clear H1
       have H' := zoam H
       clear H
       go_wp2
       go_meet
       case rel => exact ⟨_, (0), (by first | rfl | (simp; done) | (simp [*]; done)), H', ⟨by have := HJ7.out; first | omega | exact Nat.le_refl _⟩, ⟨zbk zoao⟩, ⟨zbk zoan⟩, ⟨by repeat (first | (with_reducible first | exact HB.out | apply zoaj | apply zoah | apply zoai | refine zoag ?_ zoar.out | refine zoag ?_ zoat.out) | exact HB.out)⟩⟩
     case rest =>
      clear HC26
      try clear c1
      try clear c2
      try clear p2
      try clear c3
      try clear p3
      try clear q3
      try clear hx3
      try clear c4
      try clear c5
      try clear c6
      try clear p6
      try clear c11
      try clear c14
      try clear c15
      try clear c15b0
      try clear c15b1
      try clear c17
      try clear c19
      try clear c21
      try clear c23
      try clear c27
      try clear p31
      try clear q31
      try clear hx31
      try clear c32
      try clear c33
      try clear c33b0
      try clear c34
      try clear c34b0
      try clear zobm
      try clear zobn
      try clear zobo
      try clear zobp
      try clear zobq
      try clear zobr
      try clear zoby
      try clear zobz
      try clear zoca
      try clear zocb
      try clear zocc
      try clear zoci
      try clear zocj
      try clear zock
      try clear zocl
      try clear zocm
      try clear zocs
      try clear zoct
      try clear zocu
      try clear zocv
      try clear zocw
      try clear zoek
      try clear zoel
      try clear zoem
      try clear zoen
      try clear zoeo
      try clear zoep
      try clear zoew
      try clear zoex
      try clear zoey
      try clear zoez
      try clear zofa
      try clear zodw
      try clear zodx
      try clear zody
      try clear zodz
      try clear zoea
      try clear zoeb
      try clear zobs
      try clear zobt
      try clear zobu
      try clear zobv
      try clear zobw
      try clear zobx
      try clear zocd
      try clear zoce
      try clear zocf
      try clear zocg
      try clear zoch
      try clear zocn
      try clear zoco
      try clear zocp
      try clear zocq
      try clear zocr
      try clear zocx
      try clear zocy
      try clear zocz
      try clear zoda
      try clear zodb
      try clear zoeq
      try clear zoer
      try clear zoes
      try clear zoet
      try clear zoeu
      try clear zoev
      try clear zofb
      try clear zofc
      try clear zofd
      try clear zofe
      try clear zoff
      try clear zoec
      try clear zoed
      try clear zoee
      try clear zoef
      try clear zoeg
      try clear zoeh
      try clear hx311_0
      try clear hx311_1
      try clear p2
      try clear p311
      try clear p6
      try clear q311
      obtain ⟨kq, zoay, rfl, HA, HJ25, zoao, zoan, HB⟩ := hcut
      cases kq with
      | zero => exact absurd HA.out (by simp [stowageref04_Disk_Wrong.j1])
      | succ kj25 =>
       have H := HA.out
       clear HA
       simp only [stowageref04_Disk_Wrong.j1] at H
       have HC35 := zoam H
       clear H
       go_upto_region 10 with (fail)
       go_cut [42] (fun v42 wc => ∃ (kq : Nat) (zobi : Bool), v42 = .bool zobi ∧ Aside0 (stowageref04_Disk_Wrong.j2 kq t310 zoay zobi l0_0 l0_1 a0_2 false l0_4 a0_5 a1_0 a1_1 a1_2 a1_3 a1_4 = some r) ∧ Aside0 (kq ≤ kj25) ∧ Aside0 (wc.heap[zoaq]? = some (.cells #[(.slice A0_0 l0_0.length c0_0), (.slice A0_1 l0_1.length c0_1), .int .i64 a0_2, .bool false, (.slice A0_4 l0_4.length c0_4), .int .i64 a0_5] 57 (0, 0))) ∧ Aside0 (wc.heap[zoap]? = some (.cells #[.int .i64 a1_0, .string a1_1, .string a1_2, .string a1_3, .int .i64 a1_4] 86 (0, 0))) ∧ Aside0 (Below w.heap.size w wc))
       case first =>
        have H := HC35.out
        clear HC35
        by_cases c36 : a1_0 = 0
        ·rw [if_pos c36] at H
         have c36b0 : (a1_0 == 0) = true := beq_iff_eq.mpr c36
         have c36b1 : (a1_0 != 0) = false := bne_eq_false_iff_eq.mpr c36
         clear c36
         (first | rw [c36b0] | (simp only [i64_w, i32_w]; rw [c36b0]) | skip)
         by_cases c37 : a1_3.toList = ([] : List UInt8)
         ·rw [if_pos c37] at H
          have c37b0 : (a1_3.toList == ([] : List UInt8)) = true := beq_iff_eq.mpr c37
          have c37b1 : (a1_3.toList != ([] : List UInt8)) = false := bne_eq_false_iff_eq.mpr c37
          clear c37
          have H' := zoam H
          clear H
          try go_wp2
          have n0_ := zoam (zoaf zoao.out)
          have n1_ := zoam (zoaf zoan.out)
          have n2_ := zoam (zoai HB.out)
          clear zoao
          clear zoan
          clear HB
          have zoao := n0_
          have zoan := n1_
          have HB := n2_
          clear n0_ n1_ n2_
          refine start_ (n := 25) (S := fun w' => w'.cell? ⟨zoap, 0, none⟩ = some (.int .i64 a1_0) ∧ w'.cell? ⟨zoap, 1, none⟩ = some (.string a1_1) ∧ w'.cell? ⟨zoap, 2, none⟩ = some (.string a1_2) ∧ w'.cell? ⟨zoap, 3, none⟩ = some (.string a1_3) ∧ w'.cell? ⟨zoap, 4, none⟩ = some (.int .i64 a1_4)) (ds := []) zosq0 (by kernel_rfl) rfl rfl ⟨(zoak zoan.out 0).trans rfl, (zoak zoan.out 1).trans rfl, (zoak zoan.out 2).trans rfl, (zoak zoan.out 3).trans rfl, (zoak zoan.out 4).trans rfl⟩ (fun hHeld => ?_); refine with_tabW stowageref04_Disk_Wrong.tab10 stowageref04_Disk_Wrong.bits10 (fun HT_ HW_ => ?_)
          generalize wc.drew = w38 at zoao zoan HB hHeld ⊢
          refine pure_ (i := 0) (N := some 43) (v := ?_) (a' := ?_) zosq1 rfl rfl (any_of HT_.out (by kernel_rfl)) (fun _ _ _ h => h) (Or.inl ⟨by rfl, ?_⟩) ?_ ?_
          rotate_left
          ·intro w'
           go_simp
           with_reducible rfl
          rotate_left
          ·simp only [Act.put, zoaa, zoab, zoac, i64_w, i32_w]
           rfl
          refine take_ (i := 1) (N := some 44) (v := ?_) (a' := ?_) zosq2 rfl rfl (take_ofW HT_.out HW_.out (by kernel_rfl)) (fun _ _ _ h => h) (Or.inl ⟨by rfl, ?_⟩) hHeld ?_ ?_
          rotate_left
          ·rintro w' ⟨s0, s1, s2, s3, s4⟩
           go_simp
           with_reducible rfl
          rotate_left
          ·simp only [Act.put, zoaa, zoab, zoac, i64_w, i32_w]
           rfl
          refine pure_ (i := 2) (N := some 45) (v := ?_) (a' := ?_) zosq3 rfl rfl (any_of HT_.out (by kernel_rfl)) (fun _ _ _ h => h) (Or.inl ⟨by rfl, ?_⟩) ?_ ?_
          rotate_left
          ·intro w'
           go_simp
           with_reducible rfl
          rotate_left
          ·simp only [Act.put, zoaa, zoab, zoac, i64_w, i32_w]
           rfl
          refine pure_ (i := 3) (N := some 46) (v := ?_) (a' := ?_) zosq4 rfl rfl (any_of HT_.out (by kernel_rfl)) (fun _ _ _ h => h) (Or.inl ⟨by rfl, ?_⟩) ?_ ?_
          rotate_left
          ·intro w'
           go_simp
           with_reducible rfl
          rotate_left
          ·simp only [Act.put, zoaa, zoab, zoac, i64_w, i32_w]
           rfl
          refine pure_ (i := 4) (N := some 47) (v := ?_) (a' := ?_) zosq5 rfl rfl (any_of HT_.out (by kernel_rfl)) (fun _ _ _ h => h) (Or.inl ⟨by rfl, ?_⟩) ?_ ?_
          rotate_left
          ·intro w'
           go_simp
           with_reducible rfl
          rotate_left
          ·simp only [Act.put, zoaa, zoab, zoac, i64_w, i32_w]
           rfl
          refine take_ (i := 5) (N := some 48) (v := ?_) (a' := ?_) zosq6 rfl rfl (take_ofW HT_.out HW_.out (by kernel_rfl)) (fun _ _ _ h => h) (Or.inl ⟨by rfl, ?_⟩) hHeld ?_ ?_
          rotate_left
          ·rintro w' ⟨s0, s1, s2, s3, s4⟩
           go_simp
           with_reducible rfl
          rotate_left
          ·simp only [Act.put, zoaa, zoab, zoac, i64_w, i32_w]
           rfl
          refine pure_ (i := 6) (N := some 49) (v := ?_) (a' := ?_) zosq7 rfl rfl (any_of HT_.out (by kernel_rfl)) (fun _ _ _ h => h) (Or.inl ⟨by rfl, ?_⟩) ?_ ?_
          rotate_left
          ·intro w'
           go_simp
           with_reducible rfl
          rotate_left
          ·simp only [Act.put, zoaa, zoab, zoac, i64_w, i32_w]
           rfl
          refine pure_ (i := 7) (N := some 50) (v := ?_) (a' := ?_) zosq8 rfl rfl (any_of HT_.out (by kernel_rfl)) (fun _ _ _ h => h) (Or.inl ⟨by rfl, ?_⟩) ?_ ?_
          rotate_left
          ·intro w'
           go_simp
           with_reducible rfl
          rotate_left
          ·simp only [Act.put, zoaa, zoab, zoac, i64_w, i32_w]
           rfl
          refine pure_ (i := 8) (N := some 51) (v := ?_) (a' := ?_) zosq9 rfl rfl (any_of HT_.out (by kernel_rfl)) (fun _ _ _ h => h) (Or.inl ⟨by rfl, ?_⟩) ?_ ?_
          rotate_left
          ·intro w'
           go_simp
           with_reducible rfl
          rotate_left
          ·simp only [Act.put, zoaa, zoab, zoac, i64_w, i32_w]
           rfl
          refine pure_ (i := 9) (N := some 52) (v := undef) (a' := ?_) zosq10 rfl rfl (any_of HT_.out (by kernel_rfl)) (fun _ _ _ h => h) (Or.inr ⟨by rfl, rfl⟩) ?_ ?_
          rotate_left
          ·simp only [Act.put, zoaa, zoab, zoac, i64_w, i32_w]
           rfl
          refine pure_ (i := 10) (N := some 53) (v := undef) (a' := ?_) zosq11 rfl rfl (any_of HT_.out (by kernel_rfl)) (fun _ _ _ h => h) (Or.inr ⟨by rfl, rfl⟩) ?_ ?_
          rotate_left
          ·simp only [Act.put, zoaa, zoab, zoac, i64_w, i32_w]
           rfl
          refine pure_ (i := 11) (N := some 54) (v := undef) (a' := ?_) zosq12 rfl rfl (any_of HT_.out (by kernel_rfl)) (fun _ _ _ h => h) (Or.inr ⟨by rfl, rfl⟩) ?_ ?_
          rotate_left
          ·simp only [Act.put, zoaa, zoab, zoac, i64_w, i32_w]
           rfl
          refine pure_ (i := 12) (N := some 55) (v := ?_) (a' := ?_) zosq13 rfl rfl (any_of HT_.out (by kernel_rfl)) (fun _ _ _ h => h) (Or.inl ⟨by rfl, ?_⟩) ?_ ?_
          rotate_left
          ·intro w'
           go_simp
           with_reducible rfl
          rotate_left
          ·simp only [Act.put, zoaa, zoab, zoac, i64_w, i32_w]
           rfl
          refine pure_ (i := 13) (N := some 56) (v := ?_) (a' := ?_) zosq14 rfl rfl (any_of HT_.out (by kernel_rfl)) (fun _ _ _ h => h) (Or.inl ⟨by rfl, ?_⟩) ?_ ?_
          rotate_left
          ·intro w'
           go_simp
           with_reducible rfl
          rotate_left
          ·simp only [Act.put, zoaa, zoab, zoac, i64_w, i32_w]
           rfl
          refine pure_ (i := 14) (N := some 57) (v := undef) (a' := ?_) zosq15 rfl rfl (any_of HT_.out (by kernel_rfl)) (fun _ _ _ h => h) (Or.inr ⟨by rfl, rfl⟩) ?_ ?_
          rotate_left
          ·simp only [Act.put, zoaa, zoab, zoac, i64_w, i32_w]
           rfl
          refine pure_ (i := 15) (N := some 58) (v := undef) (a' := ?_) zosq16 rfl rfl (any_of HT_.out (by kernel_rfl)) (fun _ _ _ h => h) (Or.inr ⟨by rfl, rfl⟩) ?_ ?_
          rotate_left
          ·simp only [Act.put, zoaa, zoab, zoac, i64_w, i32_w]
           rfl
          refine pure_ (i := 16) (N := some 59) (v := undef) (a' := ?_) zosq17 rfl rfl (any_of HT_.out (by kernel_rfl)) (fun _ _ _ h => h) (Or.inr ⟨by rfl, rfl⟩) ?_ ?_
          rotate_left
          ·simp only [Act.put, zoaa, zoab, zoac, i64_w, i32_w]
           rfl
          refine pure_ (i := 17) (N := some 60) (v := undef) (a' := ?_) zosq18 rfl rfl (any_of HT_.out (by kernel_rfl)) (fun _ _ _ h => h) (Or.inr ⟨by rfl, rfl⟩) ?_ ?_
          rotate_left
          ·simp only [Act.put, zoaa, zoab, zoac, i64_w, i32_w]
           rfl
          refine pure_ (i := 18) (N := some 61) (v := undef) (a' := ?_) zosq19 rfl rfl (any_of HT_.out (by kernel_rfl)) (fun _ _ _ h => h) (Or.inr ⟨by rfl, rfl⟩) ?_ ?_
          rotate_left
          ·simp only [Act.put, zoaa, zoab, zoac, i64_w, i32_w]
           rfl
          refine pure_ (i := 19) (N := some 62) (v := undef) (a' := ?_) zosq20 rfl rfl (any_of HT_.out (by kernel_rfl)) (fun _ _ _ h => h) (Or.inr ⟨by rfl, rfl⟩) ?_ ?_
          rotate_left
          ·simp only [Act.put, zoaa, zoab, zoac, i64_w, i32_w]
           rfl
          refine pure_ (i := 20) (N := some 63) (v := undef) (a' := ?_) zosq21 rfl rfl (any_of HT_.out (by kernel_rfl)) (fun _ _ _ h => h) (Or.inr ⟨by rfl, rfl⟩) ?_ ?_
          rotate_left
          ·simp only [Act.put, zoaa, zoab, zoac, i64_w, i32_w]
           rfl
          refine pure_ (i := 21) (N := some 64) (v := undef) (a' := ?_) zosq22 rfl rfl (any_of HT_.out (by kernel_rfl)) (fun _ _ _ h => h) (Or.inr ⟨by rfl, rfl⟩) ?_ ?_
          rotate_left
          ·simp only [Act.put, zoaa, zoab, zoac, i64_w, i32_w]
           rfl
          refine pure_ (i := 22) (N := some 65) (v := undef) (a' := ?_) zosq23 rfl rfl (any_of HT_.out (by kernel_rfl)) (fun _ _ _ h => h) (Or.inr ⟨by rfl, rfl⟩) ?_ ?_
          rotate_left
          ·simp only [Act.put, zoaa, zoab, zoac, i64_w, i32_w]
           rfl
          refine pure_ (i := 23) (N := some 66) (v := ?_) (a' := ?_) zosq24 rfl rfl (any_of HT_.out (by kernel_rfl)) (fun _ _ _ h => h) (Or.inl ⟨by rfl, ?_⟩) ?_ ?_
          rotate_left
          ·intro w'
           go_simp
           with_reducible rfl
          rotate_left
          ·simp only [Act.put, zoaa, zoab, zoac, i64_w, i32_w]
           rfl
          refine pure_ (i := 24) (N := some 42) (v := ?_) (a' := ?_) zosq25 rfl rfl (any_of HT_.out (by kernel_rfl)) (fun _ _ _ h => h) (Or.inl ⟨by rfl, ?_⟩) ?_ ?_
          rotate_left
          ·intro w'
           go_simp
           with_reducible rfl
          rotate_left
          ·simp only [Act.put, zoaa, zoab, zoac, i64_w, i32_w]
           rfl
          refine done_ (done_of HT_.out (by kernel_rfl)) ?_
          try go_wp2
          go_meet
          case rel => exact ⟨_, (false), (by first | rfl | (simp; done) | (simp [*]; done)), H', ⟨by have := HJ7.out; have := HJ25.out; first | omega | exact Nat.le_refl _⟩, ⟨zbk zoao⟩, ⟨zbk zoan⟩, ⟨by repeat (first | (with_reducible first | exact HB.out | apply zoaj | apply zoah | apply zoai | refine zoag ?_ zoar.out | refine zoag ?_ zoat.out) | exact HB.out)⟩⟩
         ·rw [if_neg c37] at H
          have c37b0 : (a1_3.toList == ([] : List UInt8)) = false := beq_eq_false_iff_ne.mpr c37
          have c37b1 : (a1_3.toList != ([] : List UInt8)) = true := bne_iff_ne.mpr c37
          by_cases c39 : a0_5 ≥ 0
          ·rw [if_pos c39] at H
           have c39b0 : decide (0 ≤ a0_5) = true := decide_eq_true c39
           clear c39
           replace H := Option.bind_eq_some_iff.mp H
           obtain ⟨t312, A400, H⟩ := H
           replace H : (stowageref04_Disk_Wrong.j2 kj25 t310 zoay (decide ((wrap64 (t312 + (a1_3.size : Int))) > a0_5)) l0_0 l0_1 a0_2 false l0_4 a0_5 a1_0 a1_1 a1_2 a1_3 a1_4) = some r := H
           have A40 := zoam A400
           clear A400
           have H' := zoam H
           clear H
           try go_wp2
           have n0_ := zoam (zoaf zoao.out)
           have n1_ := zoam (zoaf zoan.out)
           have n2_ := zoam (zoai HB.out)
           clear zoao
           clear zoan
           clear HB
           have zoao := n0_
           have zoan := n1_
           have HB := n2_
           clear n0_ n1_ n2_
           refine start_ (n := 25) (S := fun w' => w'.cell? ⟨zoap, 0, none⟩ = some (.int .i64 a1_0) ∧ w'.cell? ⟨zoap, 1, none⟩ = some (.string a1_1) ∧ w'.cell? ⟨zoap, 2, none⟩ = some (.string a1_2) ∧ w'.cell? ⟨zoap, 3, none⟩ = some (.string a1_3) ∧ w'.cell? ⟨zoap, 4, none⟩ = some (.int .i64 a1_4) ∧ w'.cell? ⟨zoaq, 0, none⟩ = some (.slice A0_0 l0_0.length c0_0) ∧ w'.cell? ⟨zoaq, 1, none⟩ = some (.slice A0_1 l0_1.length c0_1) ∧ w'.cell? ⟨zoaq, 2, none⟩ = some (.int .i64 a0_2) ∧ w'.cell? ⟨zoaq, 3, none⟩ = some (.bool false) ∧ w'.cell? ⟨zoaq, 4, none⟩ = some (.slice A0_4 l0_4.length c0_4) ∧ w'.cell? ⟨zoaq, 5, none⟩ = some (.int .i64 a0_5)) (ds := []) zosq0 (by kernel_rfl) rfl rfl ⟨(zoak zoan.out 0).trans rfl, (zoak zoan.out 1).trans rfl, (zoak zoan.out 2).trans rfl, (zoak zoan.out 3).trans rfl, (zoak zoan.out 4).trans rfl, (zoak zoao.out 0).trans rfl, (zoak zoao.out 1).trans rfl, (zoak zoao.out 2).trans rfl, (zoak zoao.out 3).trans rfl, (zoak zoao.out 4).trans rfl, (zoak zoao.out 5).trans rfl⟩ (fun hHeld => ?_); refine with_tabW stowageref04_Disk_Wrong.tab10 stowageref04_Disk_Wrong.bits10 (fun HT_ HW_ => ?_)
           generalize wc.drew = w41 at zoao zoan HB hHeld ⊢
           refine pure_ (i := 0) (N := some 43) (v := ?_) (a' := ?_) zosq1 rfl rfl (any_of HT_.out (by kernel_rfl)) (fun _ _ _ h => h) (Or.inl ⟨by rfl, ?_⟩) ?_ ?_
           rotate_left
           ·intro w'
            go_simp
            with_reducible rfl
           rotate_left
           ·simp only [Act.put, zoaa, zoab, zoac, i64_w, i32_w]
            rfl
           refine take_ (i := 1) (N := some 44) (v := ?_) (a' := ?_) zosq2 rfl rfl (take_ofW HT_.out HW_.out (by kernel_rfl)) (fun _ _ _ h => h) (Or.inl ⟨by rfl, ?_⟩) hHeld ?_ ?_
           rotate_left
           ·rintro w' ⟨s0, s1, s2, s3, s4, s5, s6, s7, s8, s9, s10⟩
            go_simp
            with_reducible rfl
           rotate_left
           ·simp only [Act.put, zoaa, zoab, zoac, i64_w, i32_w]
            rfl
           refine pure_ (i := 2) (N := some 45) (v := ?_) (a' := ?_) zosq3 rfl rfl (any_of HT_.out (by kernel_rfl)) (fun _ _ _ h => h) (Or.inl ⟨by rfl, ?_⟩) ?_ ?_
           rotate_left
           ·intro w'
            go_simp
            with_reducible rfl
           rotate_left
           ·simp only [Act.put, zoaa, zoab, zoac, i64_w, i32_w]
            rfl
           refine pure_ (i := 3) (N := some 46) (v := ?_) (a' := ?_) zosq4 rfl rfl (any_of HT_.out (by kernel_rfl)) (fun _ _ _ h => h) (Or.inl ⟨by rfl, ?_⟩) ?_ ?_
           rotate_left
           ·intro w'
            go_simp
            with_reducible rfl
           rotate_left
           ·simp only [Act.put, zoaa, zoab, zoac, i64_w, i32_w]
            rfl
           refine pure_ (i := 4) (N := some 47) (v := ?_) (a' := ?_) zosq5 rfl rfl (any_of HT_.out (by kernel_rfl)) (fun _ _ _ h => h) (Or.inl ⟨by rfl, ?_⟩) ?_ ?_
           rotate_left
           ·intro w'
            go_simp
            with_reducible rfl
           rotate_left
           ·simp only [Act.put, zoaa, zoab, zoac, i64_w, i32_w]
            rfl
           refine take_ (i := 5) (N := some 48) (v := ?_) (a' := ?_) zosq6 rfl rfl (take_ofW HT_.out HW_.out (by kernel_rfl)) (fun _ _ _ h => h) (Or.inl ⟨by rfl, ?_⟩) hHeld ?_ ?_
           rotate_left
           ·rintro w' ⟨s0, s1, s2, s3, s4, s5, s6, s7, s8, s9, s10⟩
            go_simp
            with_reducible rfl
           rotate_left
           ·simp only [Act.put, zoaa, zoab, zoac, i64_w, i32_w]
            rfl
           refine pure_ (i := 6) (N := some 49) (v := ?_) (a' := ?_) zosq7 rfl rfl (any_of HT_.out (by kernel_rfl)) (fun _ _ _ h => h) (Or.inl ⟨by rfl, ?_⟩) ?_ ?_
           rotate_left
           ·intro w'
            go_simp
            with_reducible rfl
           rotate_left
           ·simp only [Act.put, zoaa, zoab, zoac, i64_w, i32_w]
            rfl
           refine pure_ (i := 7) (N := some 50) (v := ?_) (a' := ?_) zosq8 rfl rfl (any_of HT_.out (by kernel_rfl)) (fun _ _ _ h => h) (Or.inl ⟨by rfl, ?_⟩) ?_ ?_
           rotate_left
           ·intro w'
            go_simp
            with_reducible rfl
           rotate_left
           ·simp only [Act.put, zoaa, zoab, zoac, i64_w, i32_w]
            rfl
           refine pure_ (i := 8) (N := some 51) (v := ?_) (a' := ?_) zosq9 rfl rfl (any_of HT_.out (by kernel_rfl)) (fun _ _ _ h => h) (Or.inl ⟨by rfl, ?_⟩) ?_ ?_
           rotate_left
           ·intro w'
            go_simp
            with_reducible rfl
           rotate_left
           ·simp only [Act.put, zoaa, zoab, zoac, i64_w, i32_w]
            rfl
           refine pure_ (i := 9) (N := some 52) (v := ?_) (a' := ?_) zosq10 rfl rfl (any_of HT_.out (by kernel_rfl)) (fun _ _ _ h => h) (Or.inl ⟨by rfl, ?_⟩) ?_ ?_
           rotate_left
           ·intro w'
            go_simp
            with_reducible rfl
           rotate_left
           ·simp only [Act.put, zoaa, zoab, zoac, i64_w, i32_w]
            rfl
           refine take_ (i := 10) (N := some 53) (v := ?_) (a' := ?_) zosq11 rfl rfl (take_ofW HT_.out HW_.out (by kernel_rfl)) (fun _ _ _ h => h) (Or.inl ⟨by rfl, ?_⟩) hHeld ?_ ?_
           rotate_left
           ·rintro w' ⟨s0, s1, s2, s3, s4, s5, s6, s7, s8, s9, s10⟩
            go_simp
            with_reducible rfl
           rotate_left
           ·simp only [Act.put, zoaa, zoab, zoac, i64_w, i32_w]
            rfl
           refine pure_ (i := 11) (N := some 54) (v := ?_) (a' := ?_) zosq12 rfl rfl (any_of HT_.out (by kernel_rfl)) (fun _ _ _ h => h) (Or.inl ⟨by rfl, ?_⟩) ?_ ?_
           rotate_left
           ·intro w'
            go_simp
            with_reducible rfl
           rotate_left
           ·simp only [Act.put, zoaa, zoab, zoac, i64_w, i32_w]
            rfl
           refine pure_ (i := 12) (N := some 55) (v := ?_) (a' := ?_) zosq13 rfl rfl (any_of HT_.out (by kernel_rfl)) (fun _ _ _ h => h) (Or.inl ⟨by rfl, ?_⟩) ?_ ?_
           rotate_left
           ·intro w'
            go_simp
            with_reducible rfl
           rotate_left
           ·simp only [Act.put, zoaa, zoab, zoac, i64_w, i32_w]
            rfl
           refine pure_ (i := 13) (N := some 56) (v := ?_) (a' := ?_) zosq14 rfl rfl (any_of HT_.out (by kernel_rfl)) (fun _ _ _ h => h) (Or.inl ⟨by rfl, ?_⟩) ?_ ?_
           rotate_left
           ·intro w'
            go_simp
            with_reducible rfl
           rotate_left
           ·simp only [Act.put, zoaa, zoab, zoac, i64_w, i32_w]
            rfl
           refine pure_ (i := 16) (N := some 59) (v := ?_) (a' := ?_) zosq26 rfl rfl (any_of HT_.out (by kernel_rfl)) (fun _ _ _ h => h) (Or.inl ⟨by rfl, ?_⟩) ?_ ?_
           rotate_left
           ·intro w'
            go_simp
            with_reducible rfl
           rotate_left
           ·simp only [Act.put, zoaa, zoab, zoac, i64_w, i32_w]
            rfl
           refine pure_ (i := 20) (N := some 63) (v := ?_) (a' := ?_) zosq27 rfl rfl (any_of HT_.out (by kernel_rfl)) (fun _ _ _ h => h) (Or.inl ⟨by rfl, ?_⟩) ?_ ?_
           rotate_left
           ·intro w'
            go_simp
            with_reducible rfl
           rotate_left
           ·simp only [Act.put, zoaa, zoab, zoac, i64_w, i32_w]
            rfl
           refine take_ (i := 14) (N := some 57) (v := ?_) (a' := ?_) zosq28 rfl rfl (take_ofW HT_.out HW_.out (by kernel_rfl)) (fun _ _ _ h => h) (Or.inl ⟨by rfl, ?_⟩) hHeld ?_ ?_
           rotate_left
           ·rintro w' ⟨s0, s1, s2, s3, s4, s5, s6, s7, s8, s9, s10⟩
            go_simp
            with_reducible rfl
           rotate_left
           ·simp only [Act.put, zoaa, zoab, zoac, i64_w, i32_w]
            rfl
           refine take_ (i := 17) (N := some 60) (v := ?_) (a' := ?_) zosq29 rfl rfl (take_ofW HT_.out HW_.out (by kernel_rfl)) (fun _ _ _ h => h) (Or.inl ⟨by rfl, ?_⟩) hHeld ?_ ?_
           rotate_left
           ·rintro w' ⟨s0, s1, s2, s3, s4, s5, s6, s7, s8, s9, s10⟩
            go_simp
            with_reducible rfl
           rotate_left
           ·simp only [Act.put, zoaa, zoab, zoac, i64_w, i32_w]
            rfl
           refine pure_ (i := 18) (N := some 61) (v := ?_) (a' := ?_) zosq30 rfl rfl (any_of HT_.out (by kernel_rfl)) (fun _ _ _ h => h) (Or.inl ⟨by rfl, ?_⟩) ?_ ?_
           rotate_left
           ·intro w'
            go_simp
            with_reducible rfl
           rotate_left
           ·simp only [Act.put, zoaa, zoab, zoac, i64_w, i32_w]
            rfl
           refine take_ (i := 21) (N := some 64) (v := ?_) (a' := ?_) zosq31 rfl rfl (take_ofW HT_.out HW_.out (by kernel_rfl)) (fun _ _ _ h => h) (Or.inl ⟨by rfl, ?_⟩) hHeld ?_ ?_
           rotate_left
           ·rintro w' ⟨s0, s1, s2, s3, s4, s5, s6, s7, s8, s9, s10⟩
            go_simp
            with_reducible rfl
           rotate_left
           ·simp only [Act.put, zoaa, zoab, zoac, i64_w, i32_w]
            rfl
           refine one_ (i := 15) (N := some 58) zosq32 rfl rfl (one_of HT_.out (by kernel_rfl)) (by decide) (fun K hK => ?_)
           refine goes_ Try.func50 (by kernel_rfl) rfl #[.agg #[.slice A0_0 l0_0.length c0_0, .slice A0_1 l0_1.length c0_1, .int .i64 a0_2, .bool false, .slice A0_4 l0_4.length c0_4, .int .i64 a0_5]] (by rfl) rfl rfl (by (try simp only [List.map_toArray, List.map_cons, List.map_nil]); first | done | rfl) ?_
           with_reducible refine (stowageref04_Disk_Used.calls kj25 _ _ l0_0 _ _ l0_1 a0_2 false _ _ l0_4 a0_5 t312 _ ?side1 ?side2 ?side3 ?side4 ?side5 ?side6 A40.out).mono ?_
           (case side1 => repeat (first | exact (Kd.C_below HR0_0.out HB.out) | (with_reducible refine Kd.C_alloc ?_ _) | (with_reducible refine Kd.C_drewN ?_ _) | (with_reducible refine Kd.C_drew ?_)))
           (case side2 => exact HC0_0.out)
           (case side3 => repeat (first | exact (Kd.C_below HR0_1.out HB.out) | (with_reducible refine Kd.C_alloc ?_ _) | (with_reducible refine Kd.C_drewN ?_ _) | (with_reducible refine Kd.C_drew ?_)))
           (case side4 => exact HC0_1.out)
           (case side5 => repeat (first | exact (Kd.C_below HR0_4.out HB.out) | (with_reducible refine Kd.C_alloc ?_ _) | (with_reducible refine Kd.C_drewN ?_ _) | (with_reducible refine Kd.C_drew ?_)))
           (case side6 => exact HC0_4.out)
           rintro e w42 ⟨rfl, hb⟩
           refine ⟨_, rfl, ?_⟩
           have n0_ := zoam (blk_below (g := zoaq) (o := .cells #[.slice A0_0 l0_0.length c0_0, .slice A0_1 l0_1.length c0_1, .int .i64 a0_2, .bool false, .slice A0_4 l0_4.length c0_4, .int .i64 a0_5] 57 (0, 0)) (zbk zoao) hb)
           have n1_ := zoam (blk_below (g := zoap) (o := .cells #[.int .i64 a1_0, .string a1_1, .string a1_2, .string a1_3, .int .i64 a1_4] 86 (0, 0)) (zbk zoan) hb)
           have n2_ := zoam (below_step (by repeat (first | (with_reducible first | exact HB.out | apply zoaj | apply zoah | apply zoai | refine zoag ?_ zoar.out | refine zoag ?_ zoat.out) | exact HB.out)) hb)
           clear zoao
           clear zoan
           clear HB
           have zoao := n0_
           have zoan := n1_
           have HB := n2_
           clear n0_ n1_ n2_
           (try clear hb)
           (try clear hb2)
           (try clear hk)
           (try clear hi)
           refine hK.out _ _ ⟨(zoak zoan.out 0).trans rfl, (zoak zoan.out 1).trans rfl, (zoak zoan.out 2).trans rfl, (zoak zoan.out 3).trans rfl, (zoak zoan.out 4).trans rfl, (zoak zoao.out 0).trans rfl, (zoak zoao.out 1).trans rfl, (zoak zoao.out 2).trans rfl, (zoak zoao.out 3).trans rfl, (zoak zoao.out 4).trans rfl, (zoak zoao.out 5).trans rfl⟩ (fun hHeld => ?_)
           clear hK K
           refine norm_ (a' := ?_) ?_ ?_
           rotate_left
           ·show Act.put _ (some 58) _ = _
            simp only [Act.put, zoaa, zoab, zoac, i64_w, i32_w]
            rfl
           refine pure_ (i := 19) (N := some 62) (v := ?_) (a' := ?_) zosq22 rfl rfl (any_of HT_.out (by kernel_rfl)) (fun _ _ _ h => h) (Or.inl ⟨by rfl, ?_⟩) ?_ ?_
           rotate_left
           ·intro w'
            go_simp
            with_reducible rfl
           rotate_left
           ·simp only [Act.put, zoaa, zoab, zoac, i64_w, i32_w]
            rfl
           refine pure_ (i := 22) (N := some 65) (v := ?_) (a' := ?_) zosq23 rfl rfl (any_of HT_.out (by kernel_rfl)) (fun _ _ _ h => h) (Or.inl ⟨by rfl, ?_⟩) ?_ ?_
           rotate_left
           ·intro w'
            go_simp
            with_reducible rfl
           rotate_left
           ·simp only [Act.put, zoaa, zoab, zoac, i64_w, i32_w]
            rfl
           refine pure_ (i := 23) (N := some 66) (v := ?_) (a' := ?_) zosq24 rfl rfl (any_of HT_.out (by kernel_rfl)) (fun _ _ _ h => h) (Or.inl ⟨by rfl, ?_⟩) ?_ ?_
           rotate_left
           ·intro w'
            go_simp
            with_reducible rfl
           rotate_left
           ·simp only [Act.put, zoaa, zoab, zoac, i64_w, i32_w]
            rfl
           refine pure_ (i := 24) (N := some 42) (v := ?_) (a' := ?_) zosq25 rfl rfl (any_of HT_.out (by kernel_rfl)) (fun _ _ _ h => h) (Or.inl ⟨by rfl, ?_⟩) ?_ ?_
           rotate_left
           ·intro w'
            go_simp
            with_reducible rfl
           rotate_left
           ·simp only [Act.put, zoaa, zoab, zoac, i64_w, i32_w]
            rfl
           refine done_ (done_of HT_.out (by kernel_rfl)) ?_
           try go_wp2
           go_meet
           case rel => exact ⟨_, (decide ((wrap64 (t312 + (a1_3.size : Int))) > a0_5)), (by first | rfl | (simp; done) | (simp [*]; done)), H', ⟨by have := HJ7.out; have := HJ25.out; first | omega | exact Nat.le_refl _⟩, ⟨zbk zoao⟩, ⟨zbk zoan⟩, ⟨by repeat (first | (with_reducible first | exact HB.out | apply zoaj | apply zoah | apply zoai | refine zoag ?_ zoar.out | refine zoag ?_ zoat.out) | exact HB.out)⟩⟩
          ·rw [if_neg c39] at H
           have c39b0 : decide (0 ≤ a0_5) = false := decide_eq_false c39
           clear c39
           have H' := zoam H
           clear H
           try go_wp2
           have n0_ := zoam (zoaf zoao.out)
           have n1_ := zoam (zoaf zoan.out)
           have n2_ := zoam (zoai HB.out)
           clear zoao
           clear zoan
           clear HB
           have zoao := n0_
           have zoan := n1_
           have HB := n2_
           clear n0_ n1_ n2_
           refine start_ (n := 25) (S := fun w' => w'.cell? ⟨zoap, 0, none⟩ = some (.int .i64 a1_0) ∧ w'.cell? ⟨zoap, 1, none⟩ = some (.string a1_1) ∧ w'.cell? ⟨zoap, 2, none⟩ = some (.string a1_2) ∧ w'.cell? ⟨zoap, 3, none⟩ = some (.string a1_3) ∧ w'.cell? ⟨zoap, 4, none⟩ = some (.int .i64 a1_4) ∧ w'.cell? ⟨zoaq, 0, none⟩ = some (.slice A0_0 l0_0.length c0_0) ∧ w'.cell? ⟨zoaq, 1, none⟩ = some (.slice A0_1 l0_1.length c0_1) ∧ w'.cell? ⟨zoaq, 2, none⟩ = some (.int .i64 a0_2) ∧ w'.cell? ⟨zoaq, 3, none⟩ = some (.bool false) ∧ w'.cell? ⟨zoaq, 4, none⟩ = some (.slice A0_4 l0_4.length c0_4) ∧ w'.cell? ⟨zoaq, 5, none⟩ = some (.int .i64 a0_5)) (ds := []) zosq0 (by kernel_rfl) rfl rfl ⟨(zoak zoan.out 0).trans rfl, (zoak zoan.out 1).trans rfl, (zoak zoan.out 2).trans rfl, (zoak zoan.out 3).trans rfl, (zoak zoan.out 4).trans rfl, (zoak zoao.out 0).trans rfl, (zoak zoao.out 1).trans rfl, (zoak zoao.out 2).trans rfl, (zoak zoao.out 3).trans rfl, (zoak zoao.out 4).trans rfl, (zoak zoao.out 5).trans rfl⟩ (fun hHeld => ?_); refine with_tabW stowageref04_Disk_Wrong.tab10 stowageref04_Disk_Wrong.bits10 (fun HT_ HW_ => ?_)
           generalize wc.drew = w43 at zoao zoan HB hHeld ⊢
           refine pure_ (i := 0) (N := some 43) (v := ?_) (a' := ?_) zosq1 rfl rfl (any_of HT_.out (by kernel_rfl)) (fun _ _ _ h => h) (Or.inl ⟨by rfl, ?_⟩) ?_ ?_
           rotate_left
           ·intro w'
            go_simp
            with_reducible rfl
           rotate_left
           ·simp only [Act.put, zoaa, zoab, zoac, i64_w, i32_w]
            rfl
           refine take_ (i := 1) (N := some 44) (v := ?_) (a' := ?_) zosq2 rfl rfl (take_ofW HT_.out HW_.out (by kernel_rfl)) (fun _ _ _ h => h) (Or.inl ⟨by rfl, ?_⟩) hHeld ?_ ?_
           rotate_left
           ·rintro w' ⟨s0, s1, s2, s3, s4, s5, s6, s7, s8, s9, s10⟩
            go_simp
            with_reducible rfl
           rotate_left
           ·simp only [Act.put, zoaa, zoab, zoac, i64_w, i32_w]
            rfl
           refine pure_ (i := 2) (N := some 45) (v := ?_) (a' := ?_) zosq3 rfl rfl (any_of HT_.out (by kernel_rfl)) (fun _ _ _ h => h) (Or.inl ⟨by rfl, ?_⟩) ?_ ?_
           rotate_left
           ·intro w'
            go_simp
            with_reducible rfl
           rotate_left
           ·simp only [Act.put, zoaa, zoab, zoac, i64_w, i32_w]
            rfl
           refine pure_ (i := 3) (N := some 46) (v := ?_) (a' := ?_) zosq4 rfl rfl (any_of HT_.out (by kernel_rfl)) (fun _ _ _ h => h) (Or.inl ⟨by rfl, ?_⟩) ?_ ?_
           rotate_left
           ·intro w'
            go_simp
            with_reducible rfl
           rotate_left
           ·simp only [Act.put, zoaa, zoab, zoac, i64_w, i32_w]
            rfl
           refine pure_ (i := 4) (N := some 47) (v := ?_) (a' := ?_) zosq5 rfl rfl (any_of HT_.out (by kernel_rfl)) (fun _ _ _ h => h) (Or.inl ⟨by rfl, ?_⟩) ?_ ?_
           rotate_left
           ·intro w'
            go_simp
            with_reducible rfl
           rotate_left
           ·simp only [Act.put, zoaa, zoab, zoac, i64_w, i32_w]
            rfl
           refine take_ (i := 5) (N := some 48) (v := ?_) (a' := ?_) zosq6 rfl rfl (take_ofW HT_.out HW_.out (by kernel_rfl)) (fun _ _ _ h => h) (Or.inl ⟨by rfl, ?_⟩) hHeld ?_ ?_
           rotate_left
           ·rintro w' ⟨s0, s1, s2, s3, s4, s5, s6, s7, s8, s9, s10⟩
            go_simp
            with_reducible rfl
           rotate_left
           ·simp only [Act.put, zoaa, zoab, zoac, i64_w, i32_w]
            rfl
           refine pure_ (i := 6) (N := some 49) (v := ?_) (a' := ?_) zosq7 rfl rfl (any_of HT_.out (by kernel_rfl)) (fun _ _ _ h => h) (Or.inl ⟨by rfl, ?_⟩) ?_ ?_
           rotate_left
           ·intro w'
            go_simp
            with_reducible rfl
           rotate_left
           ·simp only [Act.put, zoaa, zoab, zoac, i64_w, i32_w]
            rfl
           refine pure_ (i := 7) (N := some 50) (v := ?_) (a' := ?_) zosq8 rfl rfl (any_of HT_.out (by kernel_rfl)) (fun _ _ _ h => h) (Or.inl ⟨by rfl, ?_⟩) ?_ ?_
           rotate_left
           ·intro w'
            go_simp
            with_reducible rfl
           rotate_left
           ·simp only [Act.put, zoaa, zoab, zoac, i64_w, i32_w]
            rfl
           refine pure_ (i := 8) (N := some 51) (v := ?_) (a' := ?_) zosq9 rfl rfl (any_of HT_.out (by kernel_rfl)) (fun _ _ _ h => h) (Or.inl ⟨by rfl, ?_⟩) ?_ ?_
           rotate_left
           ·intro w'
            go_simp
            with_reducible rfl
           rotate_left
           ·simp only [Act.put, zoaa, zoab, zoac, i64_w, i32_w]
            rfl
           refine pure_ (i := 9) (N := some 52) (v := ?_) (a' := ?_) zosq10 rfl rfl (any_of HT_.out (by kernel_rfl)) (fun _ _ _ h => h) (Or.inl ⟨by rfl, ?_⟩) ?_ ?_
           rotate_left
           ·intro w'
            go_simp
            with_reducible rfl
           rotate_left
           ·simp only [Act.put, zoaa, zoab, zoac, i64_w, i32_w]
            rfl
           refine take_ (i := 10) (N := some 53) (v := ?_) (a' := ?_) zosq11 rfl rfl (take_ofW HT_.out HW_.out (by kernel_rfl)) (fun _ _ _ h => h) (Or.inl ⟨by rfl, ?_⟩) hHeld ?_ ?_
           rotate_left
           ·rintro w' ⟨s0, s1, s2, s3, s4, s5, s6, s7, s8, s9, s10⟩
            go_simp
            with_reducible rfl
           rotate_left
           ·simp only [Act.put, zoaa, zoab, zoac, i64_w, i32_w]
            rfl
           refine pure_ (i := 11) (N := some 54) (v := ?_) (a' := ?_) zosq12 rfl rfl (any_of HT_.out (by kernel_rfl)) (fun _ _ _ h => h) (Or.inl ⟨by rfl, ?_⟩) ?_ ?_
           rotate_left
           ·intro w'
            go_simp
            with_reducible rfl
           rotate_left
           ·simp only [Act.put, zoaa, zoab, zoac, i64_w, i32_w]
            rfl
           refine pure_ (i := 12) (N := some 55) (v := ?_) (a' := ?_) zosq13 rfl rfl (any_of HT_.out (by kernel_rfl)) (fun _ _ _ h => h) (Or.inl ⟨by rfl, ?_⟩) ?_ ?_
           rotate_left
           ·intro w'
            go_simp
            with_reducible rfl
           rotate_left
           ·simp only [Act.put, zoaa, zoab, zoac, i64_w, i32_w]
            rfl
           refine pure_ (i := 13) (N := some 56) (v := ?_) (a' := ?_) zosq14 rfl rfl (any_of HT_.out (by kernel_rfl)) (fun _ _ _ h => h) (Or.inl ⟨by rfl, ?_⟩) ?_ ?_
           rotate_left
           ·intro w'
            go_simp
            with_reducible rfl
           rotate_left
           ·simp only [Act.put, zoaa, zoab, zoac, i64_w, i32_w]
            rfl
           refine pure_ (i := 14) (N := some 57) (v := undef) (a' := ?_) zosq15 rfl rfl (any_of HT_.out (by kernel_rfl)) (fun _ _ _ h => h) (Or.inr ⟨by rfl, rfl⟩) ?_ ?_
           rotate_left
           ·simp only [Act.put, zoaa, zoab, zoac, i64_w, i32_w]
            rfl
           refine pure_ (i := 15) (N := some 58) (v := undef) (a' := ?_) zosq16 rfl rfl (any_of HT_.out (by kernel_rfl)) (fun _ _ _ h => h) (Or.inr ⟨by rfl, rfl⟩) ?_ ?_
           rotate_left
           ·simp only [Act.put, zoaa, zoab, zoac, i64_w, i32_w]
            rfl
           refine pure_ (i := 16) (N := some 59) (v := undef) (a' := ?_) zosq17 rfl rfl (any_of HT_.out (by kernel_rfl)) (fun _ _ _ h => h) (Or.inr ⟨by rfl, rfl⟩) ?_ ?_
           rotate_left
           ·simp only [Act.put, zoaa, zoab, zoac, i64_w, i32_w]
            rfl
           refine pure_ (i := 17) (N := some 60) (v := undef) (a' := ?_) zosq18 rfl rfl (any_of HT_.out (by kernel_rfl)) (fun _ _ _ h => h) (Or.inr ⟨by rfl, rfl⟩) ?_ ?_
           rotate_left
           ·simp only [Act.put, zoaa, zoab, zoac, i64_w, i32_w]
            rfl
           refine pure_ (i := 18) (N := some 61) (v := undef) (a' := ?_) zosq19 rfl rfl (any_of HT_.out (by kernel_rfl)) (fun _ _ _ h => h) (Or.inr ⟨by rfl, rfl⟩) ?_ ?_
           rotate_left
           ·simp only [Act.put, zoaa, zoab, zoac, i64_w, i32_w]
            rfl
           refine pure_ (i := 19) (N := some 62) (v := undef) (a' := ?_) zosq20 rfl rfl (any_of HT_.out (by kernel_rfl)) (fun _ _ _ h => h) (Or.inr ⟨by rfl, rfl⟩) ?_ ?_
           rotate_left
           ·simp only [Act.put, zoaa, zoab, zoac, i64_w, i32_w]
            rfl
           refine pure_ (i := 20) (N := some 63) (v := undef) (a' := ?_) zosq21 rfl rfl (any_of HT_.out (by kernel_rfl)) (fun _ _ _ h => h) (Or.inr ⟨by rfl, rfl⟩) ?_ ?_
           rotate_left
           ·simp only [Act.put, zoaa, zoab, zoac, i64_w, i32_w]
            rfl
           refine pure_ (i := 21) (N := some 64) (v := undef) (a' := ?_) zosq22 rfl rfl (any_of HT_.out (by kernel_rfl)) (fun _ _ _ h => h) (Or.inr ⟨by rfl, rfl⟩) ?_ ?_
           rotate_left
           ·simp only [Act.put, zoaa, zoab, zoac, i64_w, i32_w]
            rfl
           refine pure_ (i := 22) (N := some 65) (v := undef) (a' := ?_) zosq23 rfl rfl (any_of HT_.out (by kernel_rfl)) (fun _ _ _ h => h) (Or.inr ⟨by rfl, rfl⟩) ?_ ?_
           rotate_left
           ·simp only [Act.put, zoaa, zoab, zoac, i64_w, i32_w]
            rfl
           refine pure_ (i := 23) (N := some 66) (v := ?_) (a' := ?_) zosq24 rfl rfl (any_of HT_.out (by kernel_rfl)) (fun _ _ _ h => h) (Or.inl ⟨by rfl, ?_⟩) ?_ ?_
           rotate_left
           ·intro w'
            go_simp
            with_reducible rfl
           rotate_left
           ·simp only [Act.put, zoaa, zoab, zoac, i64_w, i32_w]
            rfl
           refine pure_ (i := 24) (N := some 42) (v := ?_) (a' := ?_) zosq25 rfl rfl (any_of HT_.out (by kernel_rfl)) (fun _ _ _ h => h) (Or.inl ⟨by rfl, ?_⟩) ?_ ?_
           rotate_left
           ·intro w'
            go_simp
            with_reducible rfl
           rotate_left
           ·simp only [Act.put, zoaa, zoab, zoac, i64_w, i32_w]
            rfl
           refine done_ (done_of HT_.out (by kernel_rfl)) ?_
           try go_wp2
           go_meet
           case rel => exact ⟨_, (false), (by first | rfl | (simp; done) | (simp [*]; done)), H', ⟨by have := HJ7.out; have := HJ25.out; first | omega | exact Nat.le_refl _⟩, ⟨zbk zoao⟩, ⟨zbk zoan⟩, ⟨by repeat (first | (with_reducible first | exact HB.out | apply zoaj | apply zoah | apply zoai | refine zoag ?_ zoar.out | refine zoag ?_ zoat.out) | exact HB.out)⟩⟩
        ·rw [if_neg c36] at H
         have c36b0 : (a1_0 == 0) = false := beq_eq_false_iff_ne.mpr c36
         have c36b1 : (a1_0 != 0) = true := bne_iff_ne.mpr c36
         (first | rw [c36b0] | (simp only [i64_w, i32_w]; rw [c36b0]) | skip)
         have H' := zoam H
         clear H
         try go_wp2
         have n0_ := zoam (zoaf zoao.out)
         have n1_ := zoam (zoaf zoan.out)
         have n2_ := zoam (zoai HB.out)
         clear zoao
         clear zoan
         clear HB
         have zoao := n0_
         have zoan := n1_
         have HB := n2_
         clear n0_ n1_ n2_
         refine start_ (n := 25) (S := fun w' => w'.cell? ⟨zoap, 0, none⟩ = some (.int .i64 a1_0) ∧ w'.cell? ⟨zoap, 1, none⟩ = some (.string a1_1) ∧ w'.cell? ⟨zoap, 2, none⟩ = some (.string a1_2) ∧ w'.cell? ⟨zoap, 3, none⟩ = some (.string a1_3) ∧ w'.cell? ⟨zoap, 4, none⟩ = some (.int .i64 a1_4)) (ds := []) zosq0 (by kernel_rfl) rfl rfl ⟨(zoak zoan.out 0).trans rfl, (zoak zoan.out 1).trans rfl, (zoak zoan.out 2).trans rfl, (zoak zoan.out 3).trans rfl, (zoak zoan.out 4).trans rfl⟩ (fun hHeld => ?_); refine with_tabW stowageref04_Disk_Wrong.tab10 stowageref04_Disk_Wrong.bits10 (fun HT_ HW_ => ?_)
         generalize wc.drew = w44 at zoao zoan HB hHeld ⊢
         refine pure_ (i := 0) (N := some 43) (v := ?_) (a' := ?_) zosq1 rfl rfl (any_of HT_.out (by kernel_rfl)) (fun _ _ _ h => h) (Or.inl ⟨by rfl, ?_⟩) ?_ ?_
         rotate_left
         ·intro w'
          go_simp
          with_reducible rfl
         rotate_left
         ·simp only [Act.put, zoaa, zoab, zoac, i64_w, i32_w]
          rfl
         refine take_ (i := 1) (N := some 44) (v := ?_) (a' := ?_) zosq2 rfl rfl (take_ofW HT_.out HW_.out (by kernel_rfl)) (fun _ _ _ h => h) (Or.inl ⟨by rfl, ?_⟩) hHeld ?_ ?_
         rotate_left
         ·rintro w' ⟨s0, s1, s2, s3, s4⟩
          go_simp
          with_reducible rfl
         rotate_left
         ·simp only [Act.put, zoaa, zoab, zoac, i64_w, i32_w]
          rfl
         refine pure_ (i := 2) (N := some 45) (v := ?_) (a' := ?_) zosq3 rfl rfl (any_of HT_.out (by kernel_rfl)) (fun _ _ _ h => h) (Or.inl ⟨by rfl, ?_⟩) ?_ ?_
         rotate_left
         ·intro w'
          go_simp
          with_reducible rfl
         rotate_left
         ·simp only [Act.put, zoaa, zoab, zoac, i64_w, i32_w]
          rfl
         refine pure_ (i := 3) (N := some 46) (v := ?_) (a' := ?_) zosq4 rfl rfl (any_of HT_.out (by kernel_rfl)) (fun _ _ _ h => h) (Or.inl ⟨by rfl, ?_⟩) ?_ ?_
         rotate_left
         ·intro w'
          go_simp
          with_reducible rfl
         rotate_left
         ·simp only [Act.put, zoaa, zoab, zoac, i64_w, i32_w]
          rfl
         refine pure_ (i := 4) (N := some 47) (v := undef) (a' := ?_) zosq5 rfl rfl (any_of HT_.out (by kernel_rfl)) (fun _ _ _ h => h) (Or.inr ⟨by rfl, rfl⟩) ?_ ?_
         rotate_left
         ·simp only [Act.put, zoaa, zoab, zoac, i64_w, i32_w]
          rfl
         refine pure_ (i := 5) (N := some 48) (v := undef) (a' := ?_) zosq6 rfl rfl (any_of HT_.out (by kernel_rfl)) (fun _ _ _ h => h) (Or.inr ⟨by rfl, rfl⟩) ?_ ?_
         rotate_left
         ·simp only [Act.put, zoaa, zoab, zoac, i64_w, i32_w]
          rfl
         refine pure_ (i := 6) (N := some 49) (v := undef) (a' := ?_) zosq7 rfl rfl (any_of HT_.out (by kernel_rfl)) (fun _ _ _ h => h) (Or.inr ⟨by rfl, rfl⟩) ?_ ?_
         rotate_left
         ·simp only [Act.put, zoaa, zoab, zoac, i64_w, i32_w]
          rfl
         refine pure_ (i := 7) (N := some 50) (v := ?_) (a' := ?_) zosq8 rfl rfl (any_of HT_.out (by kernel_rfl)) (fun _ _ _ h => h) (Or.inl ⟨by rfl, ?_⟩) ?_ ?_
         rotate_left
         ·intro w'
          go_simp
          with_reducible rfl
         rotate_left
         ·simp only [Act.put, zoaa, zoab, zoac, i64_w, i32_w]
          rfl
         refine pure_ (i := 8) (N := some 51) (v := ?_) (a' := ?_) zosq9 rfl rfl (any_of HT_.out (by kernel_rfl)) (fun _ _ _ h => h) (Or.inl ⟨by rfl, ?_⟩) ?_ ?_
         rotate_left
         ·intro w'
          go_simp
          with_reducible rfl
         rotate_left
         ·simp only [Act.put, zoaa, zoab, zoac, i64_w, i32_w]
          rfl
         refine pure_ (i := 9) (N := some 52) (v := undef) (a' := ?_) zosq10 rfl rfl (any_of HT_.out (by kernel_rfl)) (fun _ _ _ h => h) (Or.inr ⟨by rfl, rfl⟩) ?_ ?_
         rotate_left
         ·simp only [Act.put, zoaa, zoab, zoac, i64_w, i32_w]
          rfl
         refine pure_ (i := 10) (N := some 53) (v := undef) (a' := ?_) zosq11 rfl rfl (any_of HT_.out (by kernel_rfl)) (fun _ _ _ h => h) (Or.inr ⟨by rfl, rfl⟩) ?_ ?_
         rotate_left
         ·simp only [Act.put, zoaa, zoab, zoac, i64_w, i32_w]
          rfl
         refine pure_ (i := 11) (N := some 54) (v := undef) (a' := ?_) zosq12 rfl rfl (any_of HT_.out (by kernel_rfl)) (fun _ _ _ h => h) (Or.inr ⟨by rfl, rfl⟩) ?_ ?_
         rotate_left
         ·simp only [Act.put, zoaa, zoab, zoac, i64_w, i32_w]
          rfl
         refine pure_ (i := 12) (N := some 55) (v := ?_) (a' := ?_) zosq13 rfl rfl (any_of HT_.out (by kernel_rfl)) (fun _ _ _ h => h) (Or.inl ⟨by rfl, ?_⟩) ?_ ?_
         rotate_left
         ·intro w'
          go_simp
          with_reducible rfl
         rotate_left
         ·simp only [Act.put, zoaa, zoab, zoac, i64_w, i32_w]
          rfl
         refine pure_ (i := 13) (N := some 56) (v := ?_) (a' := ?_) zosq14 rfl rfl (any_of HT_.out (by kernel_rfl)) (fun _ _ _ h => h) (Or.inl ⟨by rfl, ?_⟩) ?_ ?_
         rotate_left
         ·intro w'
          go_simp
          with_reducible rfl
         rotate_left
         ·simp only [Act.put, zoaa, zoab, zoac, i64_w, i32_w]
          rfl
         refine pure_ (i := 14) (N := some 57) (v := undef) (a' := ?_) zosq15 rfl rfl (any_of HT_.out (by kernel_rfl)) (fun _ _ _ h => h) (Or.inr ⟨by rfl, rfl⟩) ?_ ?_
         rotate_left
         ·simp only [Act.put, zoaa, zoab, zoac, i64_w, i32_w]
          rfl
         refine pure_ (i := 15) (N := some 58) (v := undef) (a' := ?_) zosq16 rfl rfl (any_of HT_.out (by kernel_rfl)) (fun _ _ _ h => h) (Or.inr ⟨by rfl, rfl⟩) ?_ ?_
         rotate_left
         ·simp only [Act.put, zoaa, zoab, zoac, i64_w, i32_w]
          rfl
         refine pure_ (i := 16) (N := some 59) (v := undef) (a' := ?_) zosq17 rfl rfl (any_of HT_.out (by kernel_rfl)) (fun _ _ _ h => h) (Or.inr ⟨by rfl, rfl⟩) ?_ ?_
         rotate_left
         ·simp only [Act.put, zoaa, zoab, zoac, i64_w, i32_w]
          rfl
         refine pure_ (i := 17) (N := some 60) (v := undef) (a' := ?_) zosq18 rfl rfl (any_of HT_.out (by kernel_rfl)) (fun _ _ _ h => h) (Or.inr ⟨by rfl, rfl⟩) ?_ ?_
         rotate_left
         ·simp only [Act.put, zoaa, zoab, zoac, i64_w, i32_w]
          rfl
         refine pure_ (i := 18) (N := some 61) (v := undef) (a' := ?_) zosq19 rfl rfl (any_of HT_.out (by kernel_rfl)) (fun _ _ _ h => h) (Or.inr ⟨by rfl, rfl⟩) ?_ ?_
         rotate_left
         ·simp only [Act.put, zoaa, zoab, zoac, i64_w, i32_w]
          rfl
         refine pure_ (i := 19) (N := some 62) (v := undef) (a' := ?_) zosq20 rfl rfl (any_of HT_.out (by kernel_rfl)) (fun _ _ _ h => h) (Or.inr ⟨by rfl, rfl⟩) ?_ ?_
         rotate_left
         ·simp only [Act.put, zoaa, zoab, zoac, i64_w, i32_w]
          rfl
         refine pure_ (i := 20) (N := some 63) (v := undef) (a' := ?_) zosq21 rfl rfl (any_of HT_.out (by kernel_rfl)) (fun _ _ _ h => h) (Or.inr ⟨by rfl, rfl⟩) ?_ ?_
         rotate_left
         ·simp only [Act.put, zoaa, zoab, zoac, i64_w, i32_w]
          rfl
         refine pure_ (i := 21) (N := some 64) (v := undef) (a' := ?_) zosq22 rfl rfl (any_of HT_.out (by kernel_rfl)) (fun _ _ _ h => h) (Or.inr ⟨by rfl, rfl⟩) ?_ ?_
         rotate_left
         ·simp only [Act.put, zoaa, zoab, zoac, i64_w, i32_w]
          rfl
         refine pure_ (i := 22) (N := some 65) (v := undef) (a' := ?_) zosq23 rfl rfl (any_of HT_.out (by kernel_rfl)) (fun _ _ _ h => h) (Or.inr ⟨by rfl, rfl⟩) ?_ ?_
         rotate_left
         ·simp only [Act.put, zoaa, zoab, zoac, i64_w, i32_w]
          rfl
         refine pure_ (i := 23) (N := some 66) (v := ?_) (a' := ?_) zosq24 rfl rfl (any_of HT_.out (by kernel_rfl)) (fun _ _ _ h => h) (Or.inl ⟨by rfl, ?_⟩) ?_ ?_
         rotate_left
         ·intro w'
          go_simp
          with_reducible rfl
         rotate_left
         ·simp only [Act.put, zoaa, zoab, zoac, i64_w, i32_w]
          rfl
         refine pure_ (i := 24) (N := some 42) (v := ?_) (a' := ?_) zosq25 rfl rfl (any_of HT_.out (by kernel_rfl)) (fun _ _ _ h => h) (Or.inl ⟨by rfl, ?_⟩) ?_ ?_
         rotate_left
         ·intro w'
          go_simp
          with_reducible rfl
         rotate_left
         ·simp only [Act.put, zoaa, zoab, zoac, i64_w, i32_w]
          rfl
         refine done_ (done_of HT_.out (by kernel_rfl)) ?_
         try go_wp2
         go_meet
         case rel => exact ⟨_, (false), (by first | rfl | (simp; done) | (simp [*]; done)), H', ⟨by have := HJ7.out; have := HJ25.out; first | omega | exact Nat.le_refl _⟩, ⟨zbk zoao⟩, ⟨zbk zoan⟩, ⟨by repeat (first | (with_reducible first | exact HB.out | apply zoaj | apply zoah | apply zoai | refine zoag ?_ zoar.out | refine zoag ?_ zoat.out) | exact HB.out)⟩⟩
       case rest =>
        clear HC35
        try clear p2
        try clear c3
        try clear c5
        try clear p6
        try clear c36
        try clear c36b0
        try clear c36b1
        try clear c39
        try clear c39b0
        obtain ⟨kq, zobi, rfl, HA, HJ34, zoao, zoan, HB⟩ := hcut
        cases kq with
        | zero => exact absurd HA.out (by simp [stowageref04_Disk_Wrong.j2])
        | succ kj34 =>
         have H := HA.out
         clear HA
         simp only [stowageref04_Disk_Wrong.j2] at H
         by_cases c45 : zobi = true
         ·subst c45
          have H1 : (some 22) = some r := by rw [if_pos rfl] at H; exact H
          clear H
          have H := H1
          clear H1
          obtain rfl := Option.some.inj H
          go_wp2
          go_ret
          exact ⟨by first | rfl | (simp [errW_none, errW_some] <;> rfl) | (simp [*, errW_none, errW_some] <;> rfl), by repeat (first | (with_reducible first | exact HB.out | apply zoaj | apply zoah | apply zoai | refine zoag ?_ zoar.out | refine zoag ?_ zoat.out) | exact HB.out)⟩
         ·replace c45 := Bool.eq_false_iff.mpr c45
          subst c45
          have H1 : (if a1_0 = 1 then (if (a1_3.size : Int) > zoay then (if a0_5 ≥ 0 then ((stowageref04_Disk_Used.f kj34 l0_0 l0_1 a0_2 false l0_4 a0_5).bind fun t313 => (stowageref04_Disk_Wrong.j3 kj34 t310 zoay (decide ((wrap64 ((wrap64 (t313 - zoay)) + (a1_3.size : Int))) > a0_5)) a1_0 a1_1 a1_2 a1_3 a1_4)) else (stowageref04_Disk_Wrong.j3 kj34 t310 zoay false a1_0 a1_1 a1_2 a1_3 a1_4)) else (stowageref04_Disk_Wrong.j3 kj34 t310 zoay false a1_0 a1_1 a1_2 a1_3 a1_4)) else (stowageref04_Disk_Wrong.j3 kj34 t310 zoay false a1_0 a1_1 a1_2 a1_3 a1_4)) = some r := by rw [if_neg (show ¬ (false = true) by decide)] at H; exact H
          clear H
          have H := H1
          clear H1
          have HC46 := zoam H
          clear H
          go_upto_region 12 with (fail)
          go_cut [67] (fun v67 wc => ∃ (kq : Nat) (zobj : Bool), v67 = .bool zobj ∧ Aside0 (stowageref04_Disk_Wrong.j3 kq t310 zoay zobj a1_0 a1_1 a1_2 a1_3 a1_4 = some r) ∧ Aside0 (kq ≤ kj34) ∧ Aside0 (wc.heap[zoaq]? = some (.cells #[(.slice A0_0 l0_0.length c0_0), (.slice A0_1 l0_1.length c0_1), .int .i64 a0_2, .bool false, (.slice A0_4 l0_4.length c0_4), .int .i64 a0_5] 57 (0, 0))) ∧ Aside0 (wc.heap[zoap]? = some (.cells #[.int .i64 a1_0, .string a1_1, .string a1_2, .string a1_3, .int .i64 a1_4] 86 (0, 0))) ∧ Aside0 (Below w.heap.size w wc))
          case first =>
           have H := HC46.out
           clear HC46
           by_cases c47 : a1_0 = 1
           ·rw [if_pos c47] at H
            have c47b0 : (a1_0 == 1) = true := beq_iff_eq.mpr c47
            have c47b1 : (a1_0 != 1) = false := bne_eq_false_iff_eq.mpr c47
            clear c47
            (first | rw [c47b0] | (simp only [i64_w, i32_w]; rw [c47b0]) | skip)
            by_cases c48 : (a1_3.size : Int) > zoay
            ·rw [if_pos c48] at H
             have c48b0 : decide (zoay < (a1_3.size : Int)) = true := decide_eq_true c48
             clear c48
             by_cases c49 : a0_5 ≥ 0
             ·rw [if_pos c49] at H
              have c49b0 : decide (0 ≤ a0_5) = true := decide_eq_true c49
              clear c49
              replace H := Option.bind_eq_some_iff.mp H
              obtain ⟨t313, A500, H⟩ := H
              replace H : (stowageref04_Disk_Wrong.j3 kj34 t310 zoay (decide ((wrap64 ((wrap64 (t313 - zoay)) + (a1_3.size : Int))) > a0_5)) a1_0 a1_1 a1_2 a1_3 a1_4) = some r := H
              have A50 := zoam A500
              clear A500
              have H' := zoam H
              clear H
              try go_wp2
              have n0_ := zoam (zoaf zoao.out)
              have n1_ := zoam (zoaf zoan.out)
              have n2_ := zoam (zoai HB.out)
              clear zoao
              clear zoan
              clear HB
              have zoao := n0_
              have zoan := n1_
              have HB := n2_
              clear n0_ n1_ n2_
              refine start_ (n := 29) (S := fun w' => w'.cell? ⟨zoap, 0, none⟩ = some (.int .i64 a1_0) ∧ w'.cell? ⟨zoap, 1, none⟩ = some (.string a1_1) ∧ w'.cell? ⟨zoap, 2, none⟩ = some (.string a1_2) ∧ w'.cell? ⟨zoap, 3, none⟩ = some (.string a1_3) ∧ w'.cell? ⟨zoap, 4, none⟩ = some (.int .i64 a1_4) ∧ w'.cell? ⟨zoaq, 0, none⟩ = some (.slice A0_0 l0_0.length c0_0) ∧ w'.cell? ⟨zoaq, 1, none⟩ = some (.slice A0_1 l0_1.length c0_1) ∧ w'.cell? ⟨zoaq, 2, none⟩ = some (.int .i64 a0_2) ∧ w'.cell? ⟨zoaq, 3, none⟩ = some (.bool false) ∧ w'.cell? ⟨zoaq, 4, none⟩ = some (.slice A0_4 l0_4.length c0_4) ∧ w'.cell? ⟨zoaq, 5, none⟩ = some (.int .i64 a0_5)) (ds := []) zosq33 (by kernel_rfl) rfl rfl ⟨(zoak zoan.out 0).trans rfl, (zoak zoan.out 1).trans rfl, (zoak zoan.out 2).trans rfl, (zoak zoan.out 3).trans rfl, (zoak zoan.out 4).trans rfl, (zoak zoao.out 0).trans rfl, (zoak zoao.out 1).trans rfl, (zoak zoao.out 2).trans rfl, (zoak zoao.out 3).trans rfl, (zoak zoao.out 4).trans rfl, (zoak zoao.out 5).trans rfl⟩ (fun hHeld => ?_); refine with_tabW stowageref04_Disk_Wrong.tab12 stowageref04_Disk_Wrong.bits12 (fun HT_ HW_ => ?_)
              generalize wc.drew = w51 at zoao zoan HB hHeld ⊢
              refine pure_ (i := 0) (N := some 68) (v := ?_) (a' := ?_) zosq34 rfl rfl (any_of HT_.out (by kernel_rfl)) (fun _ _ _ h => h) (Or.inl ⟨by rfl, ?_⟩) ?_ ?_
              rotate_left
              ·intro w'
               go_simp
               with_reducible rfl
              rotate_left
              ·simp only [Act.put, zoaa, zoab, zoac, i64_w, i32_w]
               rfl
              refine take_ (i := 1) (N := some 69) (v := ?_) (a' := ?_) zosq35 rfl rfl (take_ofW HT_.out HW_.out (by kernel_rfl)) (fun _ _ _ h => h) (Or.inl ⟨by rfl, ?_⟩) hHeld ?_ ?_
              rotate_left
              ·rintro w' ⟨s0, s1, s2, s3, s4, s5, s6, s7, s8, s9, s10⟩
               go_simp
               with_reducible rfl
              rotate_left
              ·simp only [Act.put, zoaa, zoab, zoac, i64_w, i32_w]
               rfl
              refine pure_ (i := 2) (N := some 70) (v := ?_) (a' := ?_) zosq36 rfl rfl (any_of HT_.out (by kernel_rfl)) (fun _ _ _ h => h) (Or.inl ⟨by rfl, ?_⟩) ?_ ?_
              rotate_left
              ·intro w'
               go_simp
               with_reducible rfl
              rotate_left
              ·simp only [Act.put, zoaa, zoab, zoac, i64_w, i32_w]
               rfl
              refine pure_ (i := 3) (N := some 71) (v := ?_) (a' := ?_) zosq37 rfl rfl (any_of HT_.out (by kernel_rfl)) (fun _ _ _ h => h) (Or.inl ⟨by rfl, ?_⟩) ?_ ?_
              rotate_left
              ·intro w'
               go_simp
               with_reducible rfl
              rotate_left
              ·simp only [Act.put, zoaa, zoab, zoac, i64_w, i32_w]
               rfl
              refine pure_ (i := 4) (N := some 72) (v := ?_) (a' := ?_) zosq38 rfl rfl (any_of HT_.out (by kernel_rfl)) (fun _ _ _ h => h) (Or.inl ⟨by rfl, ?_⟩) ?_ ?_
              rotate_left
              ·intro w'
               go_simp
               with_reducible rfl
              rotate_left
              ·simp only [Act.put, zoaa, zoab, zoac, i64_w, i32_w]
               rfl
              refine pure_ (i := 7) (N := some 75) (v := ?_) (a' := ?_) zosq39 rfl rfl (any_of HT_.out (by kernel_rfl)) (fun _ _ _ h => h) (Or.inl ⟨by rfl, ?_⟩) ?_ ?_
              rotate_left
              ·intro w'
               go_simp
               with_reducible rfl
              rotate_left
              ·simp only [Act.put, zoaa, zoab, zoac, i64_w, i32_w]
               rfl
              refine take_ (i := 5) (N := some 73) (v := ?_) (a' := ?_) zosq40 rfl rfl (take_ofW HT_.out HW_.out (by kernel_rfl)) (fun _ _ _ h => h) (Or.inl ⟨by rfl, ?_⟩) hHeld ?_ ?_
              rotate_left
              ·rintro w' ⟨s0, s1, s2, s3, s4, s5, s6, s7, s8, s9, s10⟩
               go_simp
               with_reducible rfl
              rotate_left
              ·simp only [Act.put, zoaa, zoab, zoac, i64_w, i32_w]
               rfl
              refine pure_ (i := 6) (N := some 74) (v := ?_) (a' := ?_) zosq41 rfl rfl (any_of HT_.out (by kernel_rfl)) (fun _ _ _ h => h) (Or.inl ⟨by rfl, ?_⟩) ?_ ?_
              rotate_left
              ·intro w'
               go_simp
               with_reducible rfl
              rotate_left
              ·simp only [Act.put, zoaa, zoab, zoac, i64_w, i32_w]
               rfl
              refine pure_ (i := 8) (N := some 76) (v := ?_) (a' := ?_) zosq42 rfl rfl (any_of HT_.out (by kernel_rfl)) (fun _ _ _ h => h) (Or.inl ⟨by rfl, ?_⟩) ?_ ?_
              rotate_left
              ·intro w'
               go_simp
               with_reducible rfl
              rotate_left
              ·simp only [Act.put, zoaa, zoab, zoac, i64_w, i32_w]
               rfl
              refine pure_ (i := 9) (N := some 77) (v := ?_) (a' := ?_) zosq43 rfl rfl (any_of HT_.out (by kernel_rfl)) (fun _ _ _ h => h) (Or.inl ⟨by rfl, ?_⟩) ?_ ?_
              rotate_left
              ·intro w'
               go_simp
               with_reducible rfl
              rotate_left
              ·simp only [Act.put, zoaa, zoab, zoac, i64_w, i32_w]
               rfl
              refine pure_ (i := 10) (N := some 78) (v := ?_) (a' := ?_) zosq44 rfl rfl (any_of HT_.out (by kernel_rfl)) (fun _ _ _ h => h) (Or.inl ⟨by rfl, ?_⟩) ?_ ?_
              rotate_left
              ·intro w'
               go_simp
               with_reducible rfl
              rotate_left
              ·simp only [Act.put, zoaa, zoab, zoac, i64_w, i32_w]
               rfl
              refine pure_ (i := 11) (N := some 79) (v := ?_) (a' := ?_) zosq45 rfl rfl (any_of HT_.out (by kernel_rfl)) (fun _ _ _ h => h) (Or.inl ⟨by rfl, ?_⟩) ?_ ?_
              rotate_left
              ·intro w'
               go_simp
               with_reducible rfl
              rotate_left
              ·simp only [Act.put, zoaa, zoab, zoac, i64_w, i32_w]
               rfl
              refine take_ (i := 12) (N := some 80) (v := ?_) (a' := ?_) zosq46 rfl rfl (take_ofW HT_.out HW_.out (by kernel_rfl)) (fun _ _ _ h => h) (Or.inl ⟨by rfl, ?_⟩) hHeld ?_ ?_
              rotate_left
              ·rintro w' ⟨s0, s1, s2, s3, s4, s5, s6, s7, s8, s9, s10⟩
               go_simp
               with_reducible rfl
              rotate_left
              ·simp only [Act.put, zoaa, zoab, zoac, i64_w, i32_w]
               rfl
              refine pure_ (i := 13) (N := some 81) (v := ?_) (a' := ?_) zosq47 rfl rfl (any_of HT_.out (by kernel_rfl)) (fun _ _ _ h => h) (Or.inl ⟨by rfl, ?_⟩) ?_ ?_
              rotate_left
              ·intro w'
               go_simp
               with_reducible rfl
              rotate_left
              ·simp only [Act.put, zoaa, zoab, zoac, i64_w, i32_w]
               rfl
              refine pure_ (i := 14) (N := some 82) (v := ?_) (a' := ?_) zosq48 rfl rfl (any_of HT_.out (by kernel_rfl)) (fun _ _ _ h => h) (Or.inl ⟨by rfl, ?_⟩) ?_ ?_
              rotate_left
              ·intro w'
               go_simp
               with_reducible rfl
              rotate_left
              ·simp only [Act.put, zoaa, zoab, zoac, i64_w, i32_w]
               rfl
              refine pure_ (i := 15) (N := some 83) (v := ?_) (a' := ?_) zosq49 rfl rfl (any_of HT_.out (by kernel_rfl)) (fun _ _ _ h => h) (Or.inl ⟨by rfl, ?_⟩) ?_ ?_
              rotate_left
              ·intro w'
               go_simp
               with_reducible rfl
              rotate_left
              ·simp only [Act.put, zoaa, zoab, zoac, i64_w, i32_w]
               rfl
              refine pure_ (i := 18) (N := some 86) (v := ?_) (a' := ?_) zosq50 rfl rfl (any_of HT_.out (by kernel_rfl)) (fun _ _ _ h => h) (Or.inl ⟨by rfl, ?_⟩) ?_ ?_
              rotate_left
              ·intro w'
               go_simp
               with_reducible rfl
              rotate_left
              ·simp only [Act.put, zoaa, zoab, zoac, i64_w, i32_w]
               rfl
              refine pure_ (i := 20) (N := some 88) (v := ?_) (a' := ?_) zosq51 rfl rfl (any_of HT_.out (by kernel_rfl)) (fun _ _ _ h => h) (Or.inl ⟨by rfl, ?_⟩) ?_ ?_
              rotate_left
              ·intro w'
               go_simp
               with_reducible rfl
              rotate_left
              ·simp only [Act.put, zoaa, zoab, zoac, i64_w, i32_w]
               rfl
              refine pure_ (i := 24) (N := some 92) (v := ?_) (a' := ?_) zosq52 rfl rfl (any_of HT_.out (by kernel_rfl)) (fun _ _ _ h => h) (Or.inl ⟨by rfl, ?_⟩) ?_ ?_
              rotate_left
              ·intro w'
               go_simp
               with_reducible rfl
              rotate_left
              ·simp only [Act.put, zoaa, zoab, zoac, i64_w, i32_w]
               rfl
              refine take_ (i := 16) (N := some 84) (v := ?_) (a' := ?_) zosq53 rfl rfl (take_ofW HT_.out HW_.out (by kernel_rfl)) (fun _ _ _ h => h) (Or.inl ⟨by rfl, ?_⟩) hHeld ?_ ?_
              rotate_left
              ·rintro w' ⟨s0, s1, s2, s3, s4, s5, s6, s7, s8, s9, s10⟩
               go_simp
               with_reducible rfl
              rotate_left
              ·simp only [Act.put, zoaa, zoab, zoac, i64_w, i32_w]
               rfl
              refine take_ (i := 21) (N := some 89) (v := ?_) (a' := ?_) zosq54 rfl rfl (take_ofW HT_.out HW_.out (by kernel_rfl)) (fun _ _ _ h => h) (Or.inl ⟨by rfl, ?_⟩) hHeld ?_ ?_
              rotate_left
              ·rintro w' ⟨s0, s1, s2, s3, s4, s5, s6, s7, s8, s9, s10⟩
               go_simp
               with_reducible rfl
              rotate_left
              ·simp only [Act.put, zoaa, zoab, zoac, i64_w, i32_w]
               rfl
              refine pure_ (i := 22) (N := some 90) (v := ?_) (a' := ?_) zosq55 rfl rfl (any_of HT_.out (by kernel_rfl)) (fun _ _ _ h => h) (Or.inl ⟨by rfl, ?_⟩) ?_ ?_
              rotate_left
              ·intro w'
               go_simp
               with_reducible rfl
              rotate_left
              ·simp only [Act.put, zoaa, zoab, zoac, i64_w, i32_w]
               rfl
              refine take_ (i := 25) (N := some 93) (v := ?_) (a' := ?_) zosq56 rfl rfl (take_ofW HT_.out HW_.out (by kernel_rfl)) (fun _ _ _ h => h) (Or.inl ⟨by rfl, ?_⟩) hHeld ?_ ?_
              rotate_left
              ·rintro w' ⟨s0, s1, s2, s3, s4, s5, s6, s7, s8, s9, s10⟩
               go_simp
               with_reducible rfl
              rotate_left
              ·simp only [Act.put, zoaa, zoab, zoac, i64_w, i32_w]
               rfl
              refine one_ (i := 17) (N := some 85) zosq57 rfl rfl (one_of HT_.out (by kernel_rfl)) (by decide) (fun K hK => ?_)
              refine goes_ Try.func50 (by kernel_rfl) rfl #[.agg #[.slice A0_0 l0_0.length c0_0, .slice A0_1 l0_1.length c0_1, .int .i64 a0_2, .bool false, .slice A0_4 l0_4.length c0_4, .int .i64 a0_5]] (by rfl) rfl rfl (by (try simp only [List.map_toArray, List.map_cons, List.map_nil]); first | done | rfl) ?_
              with_reducible refine (stowageref04_Disk_Used.calls kj34 _ _ l0_0 _ _ l0_1 a0_2 false _ _ l0_4 a0_5 t313 _ ?side1 ?side2 ?side3 ?side4 ?side5 ?side6 A50.out).mono ?_
              (case side1 => repeat (first | exact (Kd.C_below HR0_0.out HB.out) | (with_reducible refine Kd.C_alloc ?_ _) | (with_reducible refine Kd.C_drewN ?_ _) | (with_reducible refine Kd.C_drew ?_)))
              (case side2 => exact HC0_0.out)
              (case side3 => repeat (first | exact (Kd.C_below HR0_1.out HB.out) | (with_reducible refine Kd.C_alloc ?_ _) | (with_reducible refine Kd.C_drewN ?_ _) | (with_reducible refine Kd.C_drew ?_)))
              (case side4 => exact HC0_1.out)
              (case side5 => repeat (first | exact (Kd.C_below HR0_4.out HB.out) | (with_reducible refine Kd.C_alloc ?_ _) | (with_reducible refine Kd.C_drewN ?_ _) | (with_reducible refine Kd.C_drew ?_)))
              (case side6 => exact HC0_4.out)
              rintro e w52 ⟨rfl, hb⟩
              refine ⟨_, rfl, ?_⟩
              have n0_ := zoam (blk_below (g := zoaq) (o := .cells #[.slice A0_0 l0_0.length c0_0, .slice A0_1 l0_1.length c0_1, .int .i64 a0_2, .bool false, .slice A0_4 l0_4.length c0_4, .int .i64 a0_5] 57 (0, 0)) (zbk zoao) hb)
              have n1_ := zoam (blk_below (g := zoap) (o := .cells #[.int .i64 a1_0, .string a1_1, .string a1_2, .string a1_3, .int .i64 a1_4] 86 (0, 0)) (zbk zoan) hb)
              have n2_ := zoam (below_step (by repeat (first | (with_reducible first | exact HB.out | apply zoaj | apply zoah | apply zoai | refine zoag ?_ zoar.out | refine zoag ?_ zoat.out) | exact HB.out)) hb)
              clear zoao
              clear zoan
              clear HB
              have zoao := n0_
              have zoan := n1_
              have HB := n2_
              clear n0_ n1_ n2_
              (try clear hb)
              (try clear hb2)
              (try clear hk)
              (try clear hi)
              refine hK.out _ _ ⟨(zoak zoan.out 0).trans rfl, (zoak zoan.out 1).trans rfl, (zoak zoan.out 2).trans rfl, (zoak zoan.out 3).trans rfl, (zoak zoan.out 4).trans rfl, (zoak zoao.out 0).trans rfl, (zoak zoao.out 1).trans rfl, (zoak zoao.out 2).trans rfl, (zoak zoao.out 3).trans rfl, (zoak zoao.out 4).trans rfl, (zoak zoao.out 5).trans rfl⟩ (fun hHeld => ?_)
              clear hK K
              refine norm_ (a' := ?_) ?_ ?_
              rotate_left
              ·show Act.put _ (some 85) _ = _
               simp only [Act.put, zoaa, zoab, zoac, i64_w, i32_w]
               rfl
              refine pure_ (i := 19) (N := some 87) (v := ?_) (a' := ?_) zosq58 rfl rfl (any_of HT_.out (by kernel_rfl)) (fun _ _ _ h => h) (Or.inl ⟨by rfl, ?_⟩) ?_ ?_
              rotate_left
              ·intro w'
               go_simp
               with_reducible rfl
              rotate_left
              ·simp only [Act.put, zoaa, zoab, zoac, i64_w, i32_w]
               rfl
              refine pure_ (i := 23) (N := some 91) (v := ?_) (a' := ?_) zosq59 rfl rfl (any_of HT_.out (by kernel_rfl)) (fun _ _ _ h => h) (Or.inl ⟨by rfl, ?_⟩) ?_ ?_
              rotate_left
              ·intro w'
               go_simp
               with_reducible rfl
              rotate_left
              ·simp only [Act.put, zoaa, zoab, zoac, i64_w, i32_w]
               rfl
              refine pure_ (i := 26) (N := some 94) (v := ?_) (a' := ?_) zosq60 rfl rfl (any_of HT_.out (by kernel_rfl)) (fun _ _ _ h => h) (Or.inl ⟨by rfl, ?_⟩) ?_ ?_
              rotate_left
              ·intro w'
               go_simp
               with_reducible rfl
              rotate_left
              ·simp only [Act.put, zoaa, zoab, zoac, i64_w, i32_w]
               rfl
              refine pure_ (i := 27) (N := some 95) (v := ?_) (a' := ?_) zosq61 rfl rfl (any_of HT_.out (by kernel_rfl)) (fun _ _ _ h => h) (Or.inl ⟨by rfl, ?_⟩) ?_ ?_
              rotate_left
              ·intro w'
               go_simp
               with_reducible rfl
              rotate_left
              ·simp only [Act.put, zoaa, zoab, zoac, i64_w, i32_w]
               rfl
              refine pure_ (i := 28) (N := some 67) (v := ?_) (a' := ?_) zosq62 rfl rfl (any_of HT_.out (by kernel_rfl)) (fun _ _ _ h => h) (Or.inl ⟨by rfl, ?_⟩) ?_ ?_
              rotate_left
              ·intro w'
               go_simp
               with_reducible rfl
              rotate_left
              ·simp only [Act.put, zoaa, zoab, zoac, i64_w, i32_w]
               rfl
              refine done_ (done_of HT_.out (by kernel_rfl)) ?_
              try go_wp2
              go_meet
              case rel => exact ⟨_, (decide ((wrap64 ((wrap64 (t313 - zoay)) + (a1_3.size : Int))) > a0_5)), (by first | rfl | (simp; done) | (simp [*]; done)), H', ⟨by have := HJ7.out; have := HJ25.out; have := HJ34.out; first | omega | exact Nat.le_refl _⟩, ⟨zbk zoao⟩, ⟨zbk zoan⟩, ⟨by repeat (first | (with_reducible first | exact HB.out | apply zoaj | apply zoah | apply zoai | refine zoag ?_ zoar.out | refine zoag ?_ zoat.out) | exact HB.out)⟩⟩
             ·rw [if_neg c49] at H
              have c49b0 : decide (0 ≤ a0_5) = false := decide_eq_false c49
              clear c49
              have H' := zoam H
              clear H
              try go_wp2
              have n0_ := zoam (zoaf zoao.out)
              have n1_ := zoam (zoaf zoan.out)
              have n2_ := zoam (zoai HB.out)
              clear zoao
              clear zoan
              clear HB
              have zoao := n0_
              have zoan := n1_
              have HB := n2_
              clear n0_ n1_ n2_
              refine start_ (n := 29) (S := fun w' => w'.cell? ⟨zoap, 0, none⟩ = some (.int .i64 a1_0) ∧ w'.cell? ⟨zoap, 1, none⟩ = some (.string a1_1) ∧ w'.cell? ⟨zoap, 2, none⟩ = some (.string a1_2) ∧ w'.cell? ⟨zoap, 3, none⟩ = some (.string a1_3) ∧ w'.cell? ⟨zoap, 4, none⟩ = some (.int .i64 a1_4) ∧ w'.cell? ⟨zoaq, 0, none⟩ = some (.slice A0_0 l0_0.length c0_0) ∧ w'.cell? ⟨zoaq, 1, none⟩ = some (.slice A0_1 l0_1.length c0_1) ∧ w'.cell? ⟨zoaq, 2, none⟩ = some (.int .i64 a0_2) ∧ w'.cell? ⟨zoaq, 3, none⟩ = some (.bool false) ∧ w'.cell? ⟨zoaq, 4, none⟩ = some (.slice A0_4 l0_4.length c0_4) ∧ w'.cell? ⟨zoaq, 5, none⟩ = some (.int .i64 a0_5)) (ds := []) zosq33 (by kernel_rfl) rfl rfl ⟨(zoak zoan.out 0).trans rfl, (zoak zoan.out 1).trans rfl, (zoak zoan.out 2).trans rfl, (zoak zoan.out 3).trans rfl, (zoak zoan.out 4).trans rfl, (zoak zoao.out 0).trans rfl, (zoak zoao.out 1).trans rfl, (zoak zoao.out 2).trans rfl, (zoak zoao.out 3).trans rfl, (zoak zoao.out 4).trans rfl, (zoak zoao.out 5).trans rfl⟩ (fun hHeld => ?_); refine with_tabW stowageref04_Disk_Wrong.tab12 stowageref04_Disk_Wrong.bits12 (fun HT_ HW_ => ?_)
              generalize wc.drew = w53 at zoao zoan HB hHeld ⊢
              refine pure_ (i := 0) (N := some 68) (v := ?_) (a' := ?_) zosq34 rfl rfl (any_of HT_.out (by kernel_rfl)) (fun _ _ _ h => h) (Or.inl ⟨by rfl, ?_⟩) ?_ ?_
              rotate_left
              ·intro w'
               go_simp
               with_reducible rfl
              rotate_left
              ·simp only [Act.put, zoaa, zoab, zoac, i64_w, i32_w]
               rfl
              refine take_ (i := 1) (N := some 69) (v := ?_) (a' := ?_) zosq35 rfl rfl (take_ofW HT_.out HW_.out (by kernel_rfl)) (fun _ _ _ h => h) (Or.inl ⟨by rfl, ?_⟩) hHeld ?_ ?_
              rotate_left
              ·rintro w' ⟨s0, s1, s2, s3, s4, s5, s6, s7, s8, s9, s10⟩
               go_simp
               with_reducible rfl
              rotate_left
              ·simp only [Act.put, zoaa, zoab, zoac, i64_w, i32_w]
               rfl
              refine pure_ (i := 2) (N := some 70) (v := ?_) (a' := ?_) zosq36 rfl rfl (any_of HT_.out (by kernel_rfl)) (fun _ _ _ h => h) (Or.inl ⟨by rfl, ?_⟩) ?_ ?_
              rotate_left
              ·intro w'
               go_simp
               with_reducible rfl
              rotate_left
              ·simp only [Act.put, zoaa, zoab, zoac, i64_w, i32_w]
               rfl
              refine pure_ (i := 3) (N := some 71) (v := ?_) (a' := ?_) zosq37 rfl rfl (any_of HT_.out (by kernel_rfl)) (fun _ _ _ h => h) (Or.inl ⟨by rfl, ?_⟩) ?_ ?_
              rotate_left
              ·intro w'
               go_simp
               with_reducible rfl
              rotate_left
              ·simp only [Act.put, zoaa, zoab, zoac, i64_w, i32_w]
               rfl
              refine pure_ (i := 4) (N := some 72) (v := ?_) (a' := ?_) zosq38 rfl rfl (any_of HT_.out (by kernel_rfl)) (fun _ _ _ h => h) (Or.inl ⟨by rfl, ?_⟩) ?_ ?_
              rotate_left
              ·intro w'
               go_simp
               with_reducible rfl
              rotate_left
              ·simp only [Act.put, zoaa, zoab, zoac, i64_w, i32_w]
               rfl
              refine pure_ (i := 7) (N := some 75) (v := ?_) (a' := ?_) zosq39 rfl rfl (any_of HT_.out (by kernel_rfl)) (fun _ _ _ h => h) (Or.inl ⟨by rfl, ?_⟩) ?_ ?_
              rotate_left
              ·intro w'
               go_simp
               with_reducible rfl
              rotate_left
              ·simp only [Act.put, zoaa, zoab, zoac, i64_w, i32_w]
               rfl
              refine take_ (i := 5) (N := some 73) (v := ?_) (a' := ?_) zosq40 rfl rfl (take_ofW HT_.out HW_.out (by kernel_rfl)) (fun _ _ _ h => h) (Or.inl ⟨by rfl, ?_⟩) hHeld ?_ ?_
              rotate_left
              ·rintro w' ⟨s0, s1, s2, s3, s4, s5, s6, s7, s8, s9, s10⟩
               go_simp
               with_reducible rfl
              rotate_left
              ·simp only [Act.put, zoaa, zoab, zoac, i64_w, i32_w]
               rfl
              refine pure_ (i := 6) (N := some 74) (v := ?_) (a' := ?_) zosq41 rfl rfl (any_of HT_.out (by kernel_rfl)) (fun _ _ _ h => h) (Or.inl ⟨by rfl, ?_⟩) ?_ ?_
              rotate_left
              ·intro w'
               go_simp
               with_reducible rfl
              rotate_left
              ·simp only [Act.put, zoaa, zoab, zoac, i64_w, i32_w]
               rfl
              refine pure_ (i := 8) (N := some 76) (v := ?_) (a' := ?_) zosq42 rfl rfl (any_of HT_.out (by kernel_rfl)) (fun _ _ _ h => h) (Or.inl ⟨by rfl, ?_⟩) ?_ ?_
              rotate_left
              ·intro w'
               go_simp
               with_reducible rfl
              rotate_left
              ·simp only [Act.put, zoaa, zoab, zoac, i64_w, i32_w]
               rfl
              refine pure_ (i := 9) (N := some 77) (v := ?_) (a' := ?_) zosq43 rfl rfl (any_of HT_.out (by kernel_rfl)) (fun _ _ _ h => h) (Or.inl ⟨by rfl, ?_⟩) ?_ ?_
              rotate_left
              ·intro w'
               go_simp
               with_reducible rfl
              rotate_left
              ·simp only [Act.put, zoaa, zoab, zoac, i64_w, i32_w]
               rfl
              refine pure_ (i := 10) (N := some 78) (v := ?_) (a' := ?_) zosq44 rfl rfl (any_of HT_.out (by kernel_rfl)) (fun _ _ _ h => h) (Or.inl ⟨by rfl, ?_⟩) ?_ ?_
              rotate_left
              ·intro w'
               go_simp
               with_reducible rfl
              rotate_left
              ·simp only [Act.put, zoaa, zoab, zoac, i64_w, i32_w]
               rfl
              refine pure_ (i := 11) (N := some 79) (v := ?_) (a' := ?_) zosq45 rfl rfl (any_of HT_.out (by kernel_rfl)) (fun _ _ _ h => h) (Or.inl ⟨by rfl, ?_⟩) ?_ ?_
              rotate_left
              ·intro w'
               go_simp
               with_reducible rfl
              rotate_left
              ·simp only [Act.put, zoaa, zoab, zoac, i64_w, i32_w]
               rfl
              refine take_ (i := 12) (N := some 80) (v := ?_) (a' := ?_) zosq46 rfl rfl (take_ofW HT_.out HW_.out (by kernel_rfl)) (fun _ _ _ h => h) (Or.inl ⟨by rfl, ?_⟩) hHeld ?_ ?_
              rotate_left
              ·rintro w' ⟨s0, s1, s2, s3, s4, s5, s6, s7, s8, s9, s10⟩
               go_simp
               with_reducible rfl
              rotate_left
              ·simp only [Act.put, zoaa, zoab, zoac, i64_w, i32_w]
               rfl
              refine pure_ (i := 13) (N := some 81) (v := ?_) (a' := ?_) zosq47 rfl rfl (any_of HT_.out (by kernel_rfl)) (fun _ _ _ h => h) (Or.inl ⟨by rfl, ?_⟩) ?_ ?_
              rotate_left
              ·intro w'
               go_simp
               with_reducible rfl
              rotate_left
              ·simp only [Act.put, zoaa, zoab, zoac, i64_w, i32_w]
               rfl
              refine pure_ (i := 14) (N := some 82) (v := ?_) (a' := ?_) zosq48 rfl rfl (any_of HT_.out (by kernel_rfl)) (fun _ _ _ h => h) (Or.inl ⟨by rfl, ?_⟩) ?_ ?_
              rotate_left
              ·intro w'
               go_simp
               with_reducible rfl
              rotate_left
              ·simp only [Act.put, zoaa, zoab, zoac, i64_w, i32_w]
               rfl
              refine pure_ (i := 15) (N := some 83) (v := ?_) (a' := ?_) zosq49 rfl rfl (any_of HT_.out (by kernel_rfl)) (fun _ _ _ h => h) (Or.inl ⟨by rfl, ?_⟩) ?_ ?_
              rotate_left
              ·intro w'
               go_simp
               with_reducible rfl
              rotate_left
              ·simp only [Act.put, zoaa, zoab, zoac, i64_w, i32_w]
               rfl
              refine pure_ (i := 16) (N := some 84) (v := undef) (a' := ?_) zosq63 rfl rfl (any_of HT_.out (by kernel_rfl)) (fun _ _ _ h => h) (Or.inr ⟨by rfl, rfl⟩) ?_ ?_
              rotate_left
              ·simp only [Act.put, zoaa, zoab, zoac, i64_w, i32_w]
               rfl
              refine pure_ (i := 17) (N := some 85) (v := undef) (a' := ?_) zosq64 rfl rfl (any_of HT_.out (by kernel_rfl)) (fun _ _ _ h => h) (Or.inr ⟨by rfl, rfl⟩) ?_ ?_
              rotate_left
              ·simp only [Act.put, zoaa, zoab, zoac, i64_w, i32_w]
               rfl
              refine pure_ (i := 18) (N := some 86) (v := undef) (a' := ?_) zosq65 rfl rfl (any_of HT_.out (by kernel_rfl)) (fun _ _ _ h => h) (Or.inr ⟨by rfl, rfl⟩) ?_ ?_
              rotate_left
              ·simp only [Act.put, zoaa, zoab, zoac, i64_w, i32_w]
               rfl
              refine pure_ (i := 19) (N := some 87) (v := undef) (a' := ?_) zosq66 rfl rfl (any_of HT_.out (by kernel_rfl)) (fun _ _ _ h => h) (Or.inr ⟨by rfl, rfl⟩) ?_ ?_
              rotate_left
              ·simp only [Act.put, zoaa, zoab, zoac, i64_w, i32_w]
               rfl
              refine pure_ (i := 20) (N := some 88) (v := undef) (a' := ?_) zosq67 rfl rfl (any_of HT_.out (by kernel_rfl)) (fun _ _ _ h => h) (Or.inr ⟨by rfl, rfl⟩) ?_ ?_
              rotate_left
              ·simp only [Act.put, zoaa, zoab, zoac, i64_w, i32_w]
               rfl
              refine pure_ (i := 21) (N := some 89) (v := undef) (a' := ?_) zosq68 rfl rfl (any_of HT_.out (by kernel_rfl)) (fun _ _ _ h => h) (Or.inr ⟨by rfl, rfl⟩) ?_ ?_
              rotate_left
              ·simp only [Act.put, zoaa, zoab, zoac, i64_w, i32_w]
               rfl
              refine pure_ (i := 22) (N := some 90) (v := undef) (a' := ?_) zosq69 rfl rfl (any_of HT_.out (by kernel_rfl)) (fun _ _ _ h => h) (Or.inr ⟨by rfl, rfl⟩) ?_ ?_
              rotate_left
              ·simp only [Act.put, zoaa, zoab, zoac, i64_w, i32_w]
               rfl
              refine pure_ (i := 23) (N := some 91) (v := undef) (a' := ?_) zosq70 rfl rfl (any_of HT_.out (by kernel_rfl)) (fun _ _ _ h => h) (Or.inr ⟨by rfl, rfl⟩) ?_ ?_
              rotate_left
              ·simp only [Act.put, zoaa, zoab, zoac, i64_w, i32_w]
               rfl
              refine pure_ (i := 24) (N := some 92) (v := undef) (a' := ?_) zosq71 rfl rfl (any_of HT_.out (by kernel_rfl)) (fun _ _ _ h => h) (Or.inr ⟨by rfl, rfl⟩) ?_ ?_
              rotate_left
              ·simp only [Act.put, zoaa, zoab, zoac, i64_w, i32_w]
               rfl
              refine pure_ (i := 25) (N := some 93) (v := undef) (a' := ?_) zosq59 rfl rfl (any_of HT_.out (by kernel_rfl)) (fun _ _ _ h => h) (Or.inr ⟨by rfl, rfl⟩) ?_ ?_
              rotate_left
              ·simp only [Act.put, zoaa, zoab, zoac, i64_w, i32_w]
               rfl
              refine pure_ (i := 26) (N := some 94) (v := undef) (a' := ?_) zosq60 rfl rfl (any_of HT_.out (by kernel_rfl)) (fun _ _ _ h => h) (Or.inr ⟨by rfl, rfl⟩) ?_ ?_
              rotate_left
              ·simp only [Act.put, zoaa, zoab, zoac, i64_w, i32_w]
               rfl
              refine pure_ (i := 27) (N := some 95) (v := ?_) (a' := ?_) zosq61 rfl rfl (any_of HT_.out (by kernel_rfl)) (fun _ _ _ h => h) (Or.inl ⟨by rfl, ?_⟩) ?_ ?_
              rotate_left
              ·intro w'
               go_simp
               with_reducible rfl
              rotate_left
              ·simp only [Act.put, zoaa, zoab, zoac, i64_w, i32_w]
               rfl
              refine pure_ (i := 28) (N := some 67) (v := ?_) (a' := ?_) zosq62 rfl rfl (any_of HT_.out (by kernel_rfl)) (fun _ _ _ h => h) (Or.inl ⟨by rfl, ?_⟩) ?_ ?_
              rotate_left
              ·intro w'
               go_simp
               with_reducible rfl
              rotate_left
              ·simp only [Act.put, zoaa, zoab, zoac, i64_w, i32_w]
               rfl
              refine done_ (done_of HT_.out (by kernel_rfl)) ?_
              try go_wp2
              go_meet
              case rel => exact ⟨_, (false), (by first | rfl | (simp; done) | (simp [*]; done)), H', ⟨by have := HJ7.out; have := HJ25.out; have := HJ34.out; first | omega | exact Nat.le_refl _⟩, ⟨zbk zoao⟩, ⟨zbk zoan⟩, ⟨by repeat (first | (with_reducible first | exact HB.out | apply zoaj | apply zoah | apply zoai | refine zoag ?_ zoar.out | refine zoag ?_ zoat.out) | exact HB.out)⟩⟩
            ·rw [if_neg c48] at H
             have c48b0 : decide (zoay < (a1_3.size : Int)) = false := decide_eq_false c48
             clear c48
             have H' := zoam H
             clear H
             try go_wp2
             have n0_ := zoam (zoaf zoao.out)
             have n1_ := zoam (zoaf zoan.out)
             have n2_ := zoam (zoai HB.out)
             clear zoao
             clear zoan
             clear HB
             have zoao := n0_
             have zoan := n1_
             have HB := n2_
             clear n0_ n1_ n2_
             refine start_ (n := 29) (S := fun w' => w'.cell? ⟨zoap, 0, none⟩ = some (.int .i64 a1_0) ∧ w'.cell? ⟨zoap, 1, none⟩ = some (.string a1_1) ∧ w'.cell? ⟨zoap, 2, none⟩ = some (.string a1_2) ∧ w'.cell? ⟨zoap, 3, none⟩ = some (.string a1_3) ∧ w'.cell? ⟨zoap, 4, none⟩ = some (.int .i64 a1_4)) (ds := []) zosq33 (by kernel_rfl) rfl rfl ⟨(zoak zoan.out 0).trans rfl, (zoak zoan.out 1).trans rfl, (zoak zoan.out 2).trans rfl, (zoak zoan.out 3).trans rfl, (zoak zoan.out 4).trans rfl⟩ (fun hHeld => ?_); refine with_tabW stowageref04_Disk_Wrong.tab12 stowageref04_Disk_Wrong.bits12 (fun HT_ HW_ => ?_)
             generalize wc.drew = w54 at zoao zoan HB hHeld ⊢
             refine pure_ (i := 0) (N := some 68) (v := ?_) (a' := ?_) zosq34 rfl rfl (any_of HT_.out (by kernel_rfl)) (fun _ _ _ h => h) (Or.inl ⟨by rfl, ?_⟩) ?_ ?_
             rotate_left
             ·intro w'
              go_simp
              with_reducible rfl
             rotate_left
             ·simp only [Act.put, zoaa, zoab, zoac, i64_w, i32_w]
              rfl
             refine take_ (i := 1) (N := some 69) (v := ?_) (a' := ?_) zosq35 rfl rfl (take_ofW HT_.out HW_.out (by kernel_rfl)) (fun _ _ _ h => h) (Or.inl ⟨by rfl, ?_⟩) hHeld ?_ ?_
             rotate_left
             ·rintro w' ⟨s0, s1, s2, s3, s4⟩
              go_simp
              with_reducible rfl
             rotate_left
             ·simp only [Act.put, zoaa, zoab, zoac, i64_w, i32_w]
              rfl
             refine pure_ (i := 2) (N := some 70) (v := ?_) (a' := ?_) zosq36 rfl rfl (any_of HT_.out (by kernel_rfl)) (fun _ _ _ h => h) (Or.inl ⟨by rfl, ?_⟩) ?_ ?_
             rotate_left
             ·intro w'
              go_simp
              with_reducible rfl
             rotate_left
             ·simp only [Act.put, zoaa, zoab, zoac, i64_w, i32_w]
              rfl
             refine pure_ (i := 3) (N := some 71) (v := ?_) (a' := ?_) zosq37 rfl rfl (any_of HT_.out (by kernel_rfl)) (fun _ _ _ h => h) (Or.inl ⟨by rfl, ?_⟩) ?_ ?_
             rotate_left
             ·intro w'
              go_simp
              with_reducible rfl
             rotate_left
             ·simp only [Act.put, zoaa, zoab, zoac, i64_w, i32_w]
              rfl
             refine pure_ (i := 4) (N := some 72) (v := ?_) (a' := ?_) zosq38 rfl rfl (any_of HT_.out (by kernel_rfl)) (fun _ _ _ h => h) (Or.inl ⟨by rfl, ?_⟩) ?_ ?_
             rotate_left
             ·intro w'
              go_simp
              with_reducible rfl
             rotate_left
             ·simp only [Act.put, zoaa, zoab, zoac, i64_w, i32_w]
              rfl
             refine pure_ (i := 7) (N := some 75) (v := ?_) (a' := ?_) zosq39 rfl rfl (any_of HT_.out (by kernel_rfl)) (fun _ _ _ h => h) (Or.inl ⟨by rfl, ?_⟩) ?_ ?_
             rotate_left
             ·intro w'
              go_simp
              with_reducible rfl
             rotate_left
             ·simp only [Act.put, zoaa, zoab, zoac, i64_w, i32_w]
              rfl
             refine take_ (i := 5) (N := some 73) (v := ?_) (a' := ?_) zosq40 rfl rfl (take_ofW HT_.out HW_.out (by kernel_rfl)) (fun _ _ _ h => h) (Or.inl ⟨by rfl, ?_⟩) hHeld ?_ ?_
             rotate_left
             ·rintro w' ⟨s0, s1, s2, s3, s4⟩
              go_simp
              with_reducible rfl
             rotate_left
             ·simp only [Act.put, zoaa, zoab, zoac, i64_w, i32_w]
              rfl
             refine pure_ (i := 6) (N := some 74) (v := ?_) (a' := ?_) zosq41 rfl rfl (any_of HT_.out (by kernel_rfl)) (fun _ _ _ h => h) (Or.inl ⟨by rfl, ?_⟩) ?_ ?_
             rotate_left
             ·intro w'
              go_simp
              with_reducible rfl
             rotate_left
             ·simp only [Act.put, zoaa, zoab, zoac, i64_w, i32_w]
              rfl
             refine pure_ (i := 8) (N := some 76) (v := ?_) (a' := ?_) zosq42 rfl rfl (any_of HT_.out (by kernel_rfl)) (fun _ _ _ h => h) (Or.inl ⟨by rfl, ?_⟩) ?_ ?_
             rotate_left
             ·intro w'
              go_simp
              with_reducible rfl
             rotate_left
             ·simp only [Act.put, zoaa, zoab, zoac, i64_w, i32_w]
              rfl
             refine pure_ (i := 9) (N := some 77) (v := ?_) (a' := ?_) zosq43 rfl rfl (any_of HT_.out (by kernel_rfl)) (fun _ _ _ h => h) (Or.inl ⟨by rfl, ?_⟩) ?_ ?_
             rotate_left
             ·intro w'
              go_simp
              with_reducible rfl
             rotate_left
             ·simp only [Act.put, zoaa, zoab, zoac, i64_w, i32_w]
              rfl
             refine pure_ (i := 10) (N := some 78) (v := ?_) (a' := ?_) zosq44 rfl rfl (any_of HT_.out (by kernel_rfl)) (fun _ _ _ h => h) (Or.inl ⟨by rfl, ?_⟩) ?_ ?_
             rotate_left
             ·intro w'
              go_simp
              with_reducible rfl
             rotate_left
             ·simp only [Act.put, zoaa, zoab, zoac, i64_w, i32_w]
              rfl
             refine pure_ (i := 11) (N := some 79) (v := undef) (a' := ?_) zosq45 rfl rfl (any_of HT_.out (by kernel_rfl)) (fun _ _ _ h => h) (Or.inr ⟨by rfl, rfl⟩) ?_ ?_
             rotate_left
             ·simp only [Act.put, zoaa, zoab, zoac, i64_w, i32_w]
              rfl
             refine pure_ (i := 12) (N := some 80) (v := undef) (a' := ?_) zosq46 rfl rfl (any_of HT_.out (by kernel_rfl)) (fun _ _ _ h => h) (Or.inr ⟨by rfl, rfl⟩) ?_ ?_
             rotate_left
             ·simp only [Act.put, zoaa, zoab, zoac, i64_w, i32_w]
              rfl
             refine pure_ (i := 13) (N := some 81) (v := undef) (a' := ?_) zosq47 rfl rfl (any_of HT_.out (by kernel_rfl)) (fun _ _ _ h => h) (Or.inr ⟨by rfl, rfl⟩) ?_ ?_
             rotate_left
             ·simp only [Act.put, zoaa, zoab, zoac, i64_w, i32_w]
              rfl
             refine pure_ (i := 14) (N := some 82) (v := ?_) (a' := ?_) zosq48 rfl rfl (any_of HT_.out (by kernel_rfl)) (fun _ _ _ h => h) (Or.inl ⟨by rfl, ?_⟩) ?_ ?_
             rotate_left
             ·intro w'
              go_simp
              with_reducible rfl
             rotate_left
             ·simp only [Act.put, zoaa, zoab, zoac, i64_w, i32_w]
              rfl
             refine pure_ (i := 15) (N := some 83) (v := ?_) (a' := ?_) zosq49 rfl rfl (any_of HT_.out (by kernel_rfl)) (fun _ _ _ h => h) (Or.inl ⟨by rfl, ?_⟩) ?_ ?_
             rotate_left
             ·intro w'
              go_simp
              with_reducible rfl
             rotate_left
             ·simp only [Act.put, zoaa, zoab, zoac, i64_w, i32_w]
              rfl
             refine pure_ (i := 16) (N := some 84) (v := undef) (a' := ?_) zosq63 rfl rfl (any_of HT_.out (by kernel_rfl)) (fun _ _ _ h => h) (Or.inr ⟨by rfl, rfl⟩) ?_ ?_
             rotate_left
             ·simp only [Act.put, zoaa, zoab, zoac, i64_w, i32_w]
              rfl
             refine pure_ (i := 17) (N := some 85) (v := undef) (a' := ?_) zosq64 rfl rfl (any_of HT_.out (by kernel_rfl)) (fun _ _ _ h => h) (Or.inr ⟨by rfl, rfl⟩) ?_ ?_
             rotate_left
             ·simp only [Act.put, zoaa, zoab, zoac, i64_w, i32_w]
              rfl
             refine pure_ (i := 18) (N := some 86) (v := undef) (a' := ?_) zosq65 rfl rfl (any_of HT_.out (by kernel_rfl)) (fun _ _ _ h => h) (Or.inr ⟨by rfl, rfl⟩) ?_ ?_
             rotate_left
             ·simp only [Act.put, zoaa, zoab, zoac, i64_w, i32_w]
              rfl
             refine pure_ (i := 19) (N := some 87) (v := undef) (a' := ?_) zosq66 rfl rfl (any_of HT_.out (by kernel_rfl)) (fun _ _ _ h => h) (Or.inr ⟨by rfl, rfl⟩) ?_ ?_
             rotate_left
             ·simp only [Act.put, zoaa, zoab, zoac, i64_w, i32_w]
              rfl
             refine pure_ (i := 20) (N := some 88) (v := undef) (a' := ?_) zosq67 rfl rfl (any_of HT_.out (by kernel_rfl)) (fun _ _ _ h => h) (Or.inr ⟨by rfl, rfl⟩) ?_ ?_
             rotate_left
             ·simp only [Act.put, zoaa, zoab, zoac, i64_w, i32_w]
              rfl
             refine pure_ (i := 21) (N := some 89) (v := undef) (a' := ?_) zosq68 rfl rfl (any_of HT_.out (by kernel_rfl)) (fun _ _ _ h => h) (Or.inr ⟨by rfl, rfl⟩) ?_ ?_
             rotate_left
             ·simp only [Act.put, zoaa, zoab, zoac, i64_w, i32_w]
              rfl
             refine pure_ (i := 22) (N := some 90) (v := undef) (a' := ?_) zosq69 rfl rfl (any_of HT_.out (by kernel_rfl)) (fun _ _ _ h => h) (Or.inr ⟨by rfl, rfl⟩) ?_ ?_
             rotate_left
             ·simp only [Act.put, zoaa, zoab, zoac, i64_w, i32_w]
              rfl
             refine pure_ (i := 23) (N := some 91) (v := undef) (a' := ?_) zosq70 rfl rfl (any_of HT_.out (by kernel_rfl)) (fun _ _ _ h => h) (Or.inr ⟨by rfl, rfl⟩) ?_ ?_
             rotate_left
             ·simp only [Act.put, zoaa, zoab, zoac, i64_w, i32_w]
              rfl
             refine pure_ (i := 24) (N := some 92) (v := undef) (a' := ?_) zosq71 rfl rfl (any_of HT_.out (by kernel_rfl)) (fun _ _ _ h => h) (Or.inr ⟨by rfl, rfl⟩) ?_ ?_
             rotate_left
             ·simp only [Act.put, zoaa, zoab, zoac, i64_w, i32_w]
              rfl
             refine pure_ (i := 25) (N := some 93) (v := undef) (a' := ?_) zosq59 rfl rfl (any_of HT_.out (by kernel_rfl)) (fun _ _ _ h => h) (Or.inr ⟨by rfl, rfl⟩) ?_ ?_
             rotate_left
             ·simp only [Act.put, zoaa, zoab, zoac, i64_w, i32_w]
              rfl
             refine pure_ (i := 26) (N := some 94) (v := undef) (a' := ?_) zosq60 rfl rfl (any_of HT_.out (by kernel_rfl)) (fun _ _ _ h => h) (Or.inr ⟨by rfl, rfl⟩) ?_ ?_
             rotate_left
             ·simp only [Act.put, zoaa, zoab, zoac, i64_w, i32_w]
              rfl
             refine pure_ (i := 27) (N := some 95) (v := ?_) (a' := ?_) zosq61 rfl rfl (any_of HT_.out (by kernel_rfl)) (fun _ _ _ h => h) (Or.inl ⟨by rfl, ?_⟩) ?_ ?_
             rotate_left
             ·intro w'
              go_simp
              with_reducible rfl
             rotate_left
             ·simp only [Act.put, zoaa, zoab, zoac, i64_w, i32_w]
              rfl
             refine pure_ (i := 28) (N := some 67) (v := ?_) (a' := ?_) zosq62 rfl rfl (any_of HT_.out (by kernel_rfl)) (fun _ _ _ h => h) (Or.inl ⟨by rfl, ?_⟩) ?_ ?_
             rotate_left
             ·intro w'
              go_simp
              with_reducible rfl
             rotate_left
             ·simp only [Act.put, zoaa, zoab, zoac, i64_w, i32_w]
              rfl
             refine done_ (done_of HT_.out (by kernel_rfl)) ?_
             try go_wp2
             go_meet
             case rel => exact ⟨_, (false), (by first | rfl | (simp; done) | (simp [*]; done)), H', ⟨by have := HJ7.out; have := HJ25.out; have := HJ34.out; first | omega | exact Nat.le_refl _⟩, ⟨zbk zoao⟩, ⟨zbk zoan⟩, ⟨by repeat (first | (with_reducible first | exact HB.out | apply zoaj | apply zoah | apply zoai | refine zoag ?_ zoar.out | refine zoag ?_ zoat.out) | exact HB.out)⟩⟩
           ·rw [if_neg c47] at H
            have c47b0 : (a1_0 == 1) = false := beq_eq_false_iff_ne.mpr c47
            have c47b1 : (a1_0 != 1) = true := bne_iff_ne.mpr c47
            (first | rw [c47b0] | (simp only [i64_w, i32_w]; rw [c47b0]) | skip)
            have H' := zoam H
            clear H
            try go_wp2
            have n0_ := zoam (zoaf zoao.out)
            have n1_ := zoam (zoaf zoan.out)
            have n2_ := zoam (zoai HB.out)
            clear zoao
            clear zoan
            clear HB
            have zoao := n0_
            have zoan := n1_
            have HB := n2_
            clear n0_ n1_ n2_
            refine start_ (n := 29) (S := fun w' => w'.cell? ⟨zoap, 0, none⟩ = some (.int .i64 a1_0) ∧ w'.cell? ⟨zoap, 1, none⟩ = some (.string a1_1) ∧ w'.cell? ⟨zoap, 2, none⟩ = some (.string a1_2) ∧ w'.cell? ⟨zoap, 3, none⟩ = some (.string a1_3) ∧ w'.cell? ⟨zoap, 4, none⟩ = some (.int .i64 a1_4)) (ds := []) zosq33 (by kernel_rfl) rfl rfl ⟨(zoak zoan.out 0).trans rfl, (zoak zoan.out 1).trans rfl, (zoak zoan.out 2).trans rfl, (zoak zoan.out 3).trans rfl, (zoak zoan.out 4).trans rfl⟩ (fun hHeld => ?_); refine with_tabW stowageref04_Disk_Wrong.tab12 stowageref04_Disk_Wrong.bits12 (fun HT_ HW_ => ?_)
            generalize wc.drew = w55 at zoao zoan HB hHeld ⊢
            refine pure_ (i := 0) (N := some 68) (v := ?_) (a' := ?_) zosq34 rfl rfl (any_of HT_.out (by kernel_rfl)) (fun _ _ _ h => h) (Or.inl ⟨by rfl, ?_⟩) ?_ ?_
            rotate_left
            ·intro w'
             go_simp
             with_reducible rfl
            rotate_left
            ·simp only [Act.put, zoaa, zoab, zoac, i64_w, i32_w]
             rfl
            refine take_ (i := 1) (N := some 69) (v := ?_) (a' := ?_) zosq35 rfl rfl (take_ofW HT_.out HW_.out (by kernel_rfl)) (fun _ _ _ h => h) (Or.inl ⟨by rfl, ?_⟩) hHeld ?_ ?_
            rotate_left
            ·rintro w' ⟨s0, s1, s2, s3, s4⟩
             go_simp
             with_reducible rfl
            rotate_left
            ·simp only [Act.put, zoaa, zoab, zoac, i64_w, i32_w]
             rfl
            refine pure_ (i := 2) (N := some 70) (v := ?_) (a' := ?_) zosq36 rfl rfl (any_of HT_.out (by kernel_rfl)) (fun _ _ _ h => h) (Or.inl ⟨by rfl, ?_⟩) ?_ ?_
            rotate_left
            ·intro w'
             go_simp
             with_reducible rfl
            rotate_left
            ·simp only [Act.put, zoaa, zoab, zoac, i64_w, i32_w]
             rfl
            refine pure_ (i := 3) (N := some 71) (v := ?_) (a' := ?_) zosq37 rfl rfl (any_of HT_.out (by kernel_rfl)) (fun _ _ _ h => h) (Or.inl ⟨by rfl, ?_⟩) ?_ ?_
            rotate_left
            ·intro w'
             go_simp
             with_reducible rfl
            rotate_left
            ·simp only [Act.put, zoaa, zoab, zoac, i64_w, i32_w]
             rfl
            refine pure_ (i := 4) (N := some 72) (v := undef) (a' := ?_) zosq38 rfl rfl (any_of HT_.out (by kernel_rfl)) (fun _ _ _ h => h) (Or.inr ⟨by rfl, rfl⟩) ?_ ?_
            rotate_left
            ·simp only [Act.put, zoaa, zoab, zoac, i64_w, i32_w]
             rfl
            refine pure_ (i := 5) (N := some 73) (v := undef) (a' := ?_) zosq72 rfl rfl (any_of HT_.out (by kernel_rfl)) (fun _ _ _ h => h) (Or.inr ⟨by rfl, rfl⟩) ?_ ?_
            rotate_left
            ·simp only [Act.put, zoaa, zoab, zoac, i64_w, i32_w]
             rfl
            refine pure_ (i := 6) (N := some 74) (v := undef) (a' := ?_) zosq73 rfl rfl (any_of HT_.out (by kernel_rfl)) (fun _ _ _ h => h) (Or.inr ⟨by rfl, rfl⟩) ?_ ?_
            rotate_left
            ·simp only [Act.put, zoaa, zoab, zoac, i64_w, i32_w]
             rfl
            refine pure_ (i := 7) (N := some 75) (v := undef) (a' := ?_) zosq41 rfl rfl (any_of HT_.out (by kernel_rfl)) (fun _ _ _ h => h) (Or.inr ⟨by rfl, rfl⟩) ?_ ?_
            rotate_left
            ·simp only [Act.put, zoaa, zoab, zoac, i64_w, i32_w]
             rfl
            refine pure_ (i := 8) (N := some 76) (v := undef) (a' := ?_) zosq42 rfl rfl (any_of HT_.out (by kernel_rfl)) (fun _ _ _ h => h) (Or.inr ⟨by rfl, rfl⟩) ?_ ?_
            rotate_left
            ·simp only [Act.put, zoaa, zoab, zoac, i64_w, i32_w]
             rfl
            refine pure_ (i := 9) (N := some 77) (v := ?_) (a' := ?_) zosq43 rfl rfl (any_of HT_.out (by kernel_rfl)) (fun _ _ _ h => h) (Or.inl ⟨by rfl, ?_⟩) ?_ ?_
            rotate_left
            ·intro w'
             go_simp
             with_reducible rfl
            rotate_left
            ·simp only [Act.put, zoaa, zoab, zoac, i64_w, i32_w]
             rfl
            refine pure_ (i := 10) (N := some 78) (v := ?_) (a' := ?_) zosq44 rfl rfl (any_of HT_.out (by kernel_rfl)) (fun _ _ _ h => h) (Or.inl ⟨by rfl, ?_⟩) ?_ ?_
            rotate_left
            ·intro w'
             go_simp
             with_reducible rfl
            rotate_left
            ·simp only [Act.put, zoaa, zoab, zoac, i64_w, i32_w]
             rfl
            refine pure_ (i := 11) (N := some 79) (v := undef) (a' := ?_) zosq45 rfl rfl (any_of HT_.out (by kernel_rfl)) (fun _ _ _ h => h) (Or.inr ⟨by rfl, rfl⟩) ?_ ?_
            rotate_left
            ·simp only [Act.put, zoaa, zoab, zoac, i64_w, i32_w]
             rfl
            refine pure_ (i := 12) (N := some 80) (v := undef) (a' := ?_) zosq46 rfl rfl (any_of HT_.out (by kernel_rfl)) (fun _ _ _ h => h) (Or.inr ⟨by rfl, rfl⟩) ?_ ?_
            rotate_left
            ·simp only [Act.put, zoaa, zoab, zoac, i64_w, i32_w]
             rfl
            refine pure_ (i := 13) (N := some 81) (v := undef) (a' := ?_) zosq47 rfl rfl (any_of HT_.out (by kernel_rfl)) (fun _ _ _ h => h) (Or.inr ⟨by rfl, rfl⟩) ?_ ?_
            rotate_left
            ·simp only [Act.put, zoaa, zoab, zoac, i64_w, i32_w]
             rfl
            refine pure_ (i := 14) (N := some 82) (v := ?_) (a' := ?_) zosq48 rfl rfl (any_of HT_.out (by kernel_rfl)) (fun _ _ _ h => h) (Or.inl ⟨by rfl, ?_⟩) ?_ ?_
            rotate_left
            ·intro w'
             go_simp
             with_reducible rfl
            rotate_left
            ·simp only [Act.put, zoaa, zoab, zoac, i64_w, i32_w]
             rfl
            refine pure_ (i := 15) (N := some 83) (v := ?_) (a' := ?_) zosq49 rfl rfl (any_of HT_.out (by kernel_rfl)) (fun _ _ _ h => h) (Or.inl ⟨by rfl, ?_⟩) ?_ ?_
            rotate_left
            ·intro w'
             go_simp
             with_reducible rfl
            rotate_left
            ·simp only [Act.put, zoaa, zoab, zoac, i64_w, i32_w]
             rfl
            refine pure_ (i := 16) (N := some 84) (v := undef) (a' := ?_) zosq63 rfl rfl (any_of HT_.out (by kernel_rfl)) (fun _ _ _ h => h) (Or.inr ⟨by rfl, rfl⟩) ?_ ?_
            rotate_left
            ·simp only [Act.put, zoaa, zoab, zoac, i64_w, i32_w]
             rfl
            refine pure_ (i := 17) (N := some 85) (v := undef) (a' := ?_) zosq64 rfl rfl (any_of HT_.out (by kernel_rfl)) (fun _ _ _ h => h) (Or.inr ⟨by rfl, rfl⟩) ?_ ?_
            rotate_left
            ·simp only [Act.put, zoaa, zoab, zoac, i64_w, i32_w]
             rfl
            refine pure_ (i := 18) (N := some 86) (v := undef) (a' := ?_) zosq65 rfl rfl (any_of HT_.out (by kernel_rfl)) (fun _ _ _ h => h) (Or.inr ⟨by rfl, rfl⟩) ?_ ?_
            rotate_left
            ·simp only [Act.put, zoaa, zoab, zoac, i64_w, i32_w]
             rfl
            refine pure_ (i := 19) (N := some 87) (v := undef) (a' := ?_) zosq66 rfl rfl (any_of HT_.out (by kernel_rfl)) (fun _ _ _ h => h) (Or.inr ⟨by rfl, rfl⟩) ?_ ?_
            rotate_left
            ·simp only [Act.put, zoaa, zoab, zoac, i64_w, i32_w]
             rfl
            refine pure_ (i := 20) (N := some 88) (v := undef) (a' := ?_) zosq67 rfl rfl (any_of HT_.out (by kernel_rfl)) (fun _ _ _ h => h) (Or.inr ⟨by rfl, rfl⟩) ?_ ?_
            rotate_left
            ·simp only [Act.put, zoaa, zoab, zoac, i64_w, i32_w]
             rfl
            refine pure_ (i := 21) (N := some 89) (v := undef) (a' := ?_) zosq68 rfl rfl (any_of HT_.out (by kernel_rfl)) (fun _ _ _ h => h) (Or.inr ⟨by rfl, rfl⟩) ?_ ?_
            rotate_left
            ·simp only [Act.put, zoaa, zoab, zoac, i64_w, i32_w]
             rfl
            refine pure_ (i := 22) (N := some 90) (v := undef) (a' := ?_) zosq69 rfl rfl (any_of HT_.out (by kernel_rfl)) (fun _ _ _ h => h) (Or.inr ⟨by rfl, rfl⟩) ?_ ?_
            rotate_left
            ·simp only [Act.put, zoaa, zoab, zoac, i64_w, i32_w]
             rfl
            refine pure_ (i := 23) (N := some 91) (v := undef) (a' := ?_) zosq70 rfl rfl (any_of HT_.out (by kernel_rfl)) (fun _ _ _ h => h) (Or.inr ⟨by rfl, rfl⟩) ?_ ?_
            rotate_left
            ·simp only [Act.put, zoaa, zoab, zoac, i64_w, i32_w]
             rfl
            refine pure_ (i := 24) (N := some 92) (v := undef) (a' := ?_) zosq71 rfl rfl (any_of HT_.out (by kernel_rfl)) (fun _ _ _ h => h) (Or.inr ⟨by rfl, rfl⟩) ?_ ?_
            rotate_left
            ·simp only [Act.put, zoaa, zoab, zoac, i64_w, i32_w]
             rfl
            refine pure_ (i := 25) (N := some 93) (v := undef) (a' := ?_) zosq59 rfl rfl (any_of HT_.out (by kernel_rfl)) (fun _ _ _ h => h) (Or.inr ⟨by rfl, rfl⟩) ?_ ?_
            rotate_left
            ·simp only [Act.put, zoaa, zoab, zoac, i64_w, i32_w]
             rfl
            refine pure_ (i := 26) (N := some 94) (v := undef) (a' := ?_) zosq60 rfl rfl (any_of HT_.out (by kernel_rfl)) (fun _ _ _ h => h) (Or.inr ⟨by rfl, rfl⟩) ?_ ?_
            rotate_left
            ·simp only [Act.put, zoaa, zoab, zoac, i64_w, i32_w]
             rfl
            refine pure_ (i := 27) (N := some 95) (v := ?_) (a' := ?_) zosq61 rfl rfl (any_of HT_.out (by kernel_rfl)) (fun _ _ _ h => h) (Or.inl ⟨by rfl, ?_⟩) ?_ ?_
            rotate_left
            ·intro w'
             go_simp
             with_reducible rfl
            rotate_left
            ·simp only [Act.put, zoaa, zoab, zoac, i64_w, i32_w]
             rfl
            refine pure_ (i := 28) (N := some 67) (v := ?_) (a' := ?_) zosq62 rfl rfl (any_of HT_.out (by kernel_rfl)) (fun _ _ _ h => h) (Or.inl ⟨by rfl, ?_⟩) ?_ ?_
            rotate_left
            ·intro w'
             go_simp
             with_reducible rfl
            rotate_left
            ·simp only [Act.put, zoaa, zoab, zoac, i64_w, i32_w]
             rfl
            refine done_ (done_of HT_.out (by kernel_rfl)) ?_
            try go_wp2
            go_meet
            case rel => exact ⟨_, (false), (by first | rfl | (simp; done) | (simp [*]; done)), H', ⟨by have := HJ7.out; have := HJ25.out; have := HJ34.out; first | omega | exact Nat.le_refl _⟩, ⟨zbk zoao⟩, ⟨zbk zoan⟩, ⟨by repeat (first | (with_reducible first | exact HB.out | apply zoaj | apply zoah | apply zoai | refine zoag ?_ zoar.out | refine zoag ?_ zoat.out) | exact HB.out)⟩⟩
          case rest =>
           clear HC46
           try clear p2
           try clear c4
           try clear p6
           try clear c47
           try clear c47b0
           try clear c47b1
           try clear c48
           try clear c48b0
           try clear c49
           try clear c49b0
           obtain ⟨kq, zobj, rfl, HA, HJ45, zoao, zoan, HB⟩ := hcut
           cases kq with
           | zero => exact absurd HA.out (by simp [stowageref04_Disk_Wrong.j3])
           | succ kj45 =>
            have H := HA.out
            clear HA
            simp only [stowageref04_Disk_Wrong.j3] at H
            by_cases c56 : zobj = true
            ·subst c56
             have H1 : (some 22) = some r := by rw [if_pos rfl] at H; exact H
             clear H
             have H := H1
             clear H1
             obtain rfl := Option.some.inj H
             go_wp2
             go_ret
             exact ⟨by first | rfl | (simp [errW_none, errW_some] <;> rfl) | (simp [*, errW_none, errW_some] <;> rfl), by repeat (first | (with_reducible first | exact HB.out | apply zoaj | apply zoah | apply zoai | refine zoag ?_ zoar.out | refine zoag ?_ zoat.out) | exact HB.out)⟩
            ·replace c56 := Bool.eq_false_iff.mpr c56
             subst c56
             have H1 : (if a1_0 ≥ 2 then (stowageref04_Disk_Wrong.j4 kj45 zoay (!t310) a1_0 a1_1 a1_2 a1_3 a1_4) else (stowageref04_Disk_Wrong.j4 kj45 zoay false a1_0 a1_1 a1_2 a1_3 a1_4)) = some r := by rw [if_neg (show ¬ (false = true) by decide)] at H; exact H
             clear H
             have H := H1
             clear H1
             have HC57 := zoam H
             clear H
             go_upto_region 14 with (fail)
             go_cut [96] (fun v96 wc => ∃ (kq : Nat) (zobk : Bool), v96 = .bool zobk ∧ Aside0 (stowageref04_Disk_Wrong.j4 kq zoay zobk a1_0 a1_1 a1_2 a1_3 a1_4 = some r) ∧ Aside0 (kq ≤ kj45) ∧ Aside0 (wc.heap[zoaq]? = some (.cells #[(.slice A0_0 l0_0.length c0_0), (.slice A0_1 l0_1.length c0_1), .int .i64 a0_2, .bool false, (.slice A0_4 l0_4.length c0_4), .int .i64 a0_5] 57 (0, 0))) ∧ Aside0 (wc.heap[zoap]? = some (.cells #[.int .i64 a1_0, .string a1_1, .string a1_2, .string a1_3, .int .i64 a1_4] 86 (0, 0))) ∧ Aside0 (Below w.heap.size w wc))
             case first =>
              have H := HC57.out
              clear HC57
              by_cases c58 : a1_0 ≥ 2
              ·rw [if_pos c58] at H
               have c58b0 : decide (2 ≤ a1_0) = true := decide_eq_true c58
               clear c58
               (first | rw [c58b0] | (simp only [i64_w, i32_w]; rw [c58b0]) | skip)
               have H' := zoam H
               clear H
               have hnb59 := zoba.out
               have hnc59 := zoaz.out
               have zodc : wc.cell? ⟨zoap, 0, none⟩ = some (.int .i64 a1_0) := (zoak zoan.out 0).trans rfl
               have zodd : wc.cell? ⟨zoap, 1, none⟩ = some (.string a1_1) := (zoak zoan.out 1).trans rfl
               have zode : wc.cell? ⟨zoap, 2, none⟩ = some (.string a1_2) := (zoak zoan.out 2).trans rfl
               have zodf : wc.cell? ⟨zoap, 3, none⟩ = some (.string a1_3) := (zoak zoan.out 3).trans rfl
               have zodg : wc.cell? ⟨zoap, 4, none⟩ = some (.int .i64 a1_4) := (zoak zoan.out 4).trans rfl
               have zodh := zoal zoan.out 0
               have zodi := zoal zoan.out 1
               have zodj := zoal zoan.out 2
               have zodk := zoal zoan.out 3
               have zodl := zoal zoan.out 4
               go_wp2
               go_meet
               case rel => exact ⟨_, (!t310), (by first | rfl | (simp; done) | (simp [*]; done)), H', ⟨by have := HJ7.out; have := HJ25.out; have := HJ34.out; have := HJ45.out; first | omega | exact Nat.le_refl _⟩, ⟨zbk zoao⟩, ⟨zbk zoan⟩, ⟨by repeat (first | (with_reducible first | exact HB.out | apply zoaj | apply zoah | apply zoai | refine zoag ?_ zoar.out | refine zoag ?_ zoat.out) | exact HB.out)⟩⟩
              ·rw [if_neg c58] at H
               have c58b0 : decide (2 ≤ a1_0) = false := decide_eq_false c58
               clear c58
               (first | rw [c58b0] | (simp only [i64_w, i32_w]; rw [c58b0]) | skip)
               have H' := zoam H
               clear H
               have hnb61 := zoba.out
               have hnc61 := zoaz.out
               have zodm : wc.cell? ⟨zoap, 0, none⟩ = some (.int .i64 a1_0) := (zoak zoan.out 0).trans rfl
               have zodn : wc.cell? ⟨zoap, 1, none⟩ = some (.string a1_1) := (zoak zoan.out 1).trans rfl
               have zodo : wc.cell? ⟨zoap, 2, none⟩ = some (.string a1_2) := (zoak zoan.out 2).trans rfl
               have zodp : wc.cell? ⟨zoap, 3, none⟩ = some (.string a1_3) := (zoak zoan.out 3).trans rfl
               have zodq : wc.cell? ⟨zoap, 4, none⟩ = some (.int .i64 a1_4) := (zoak zoan.out 4).trans rfl
               have zodr := zoal zoan.out 0
               have zods := zoal zoan.out 1
               have zodt := zoal zoan.out 2
               have zodu := zoal zoan.out 3
               have zodv := zoal zoan.out 4
               go_wp2
               go_meet
               case rel => exact ⟨_, (false), (by first | rfl | (simp; done) | (simp [*]; done)), H', ⟨by have := HJ7.out; have := HJ25.out; have := HJ34.out; have := HJ45.out; first | omega | exact Nat.le_refl _⟩, ⟨zbk zoao⟩, ⟨zbk zoan⟩, ⟨by repeat (first | (with_reducible first | exact HB.out | apply zoaj | apply zoah | apply zoai | refine zoag ?_ zoar.out | refine zoag ?_ zoat.out) | exact HB.out)⟩⟩
             case rest =>
              clear HC57
              try clear p2
              try clear c4
              try clear c5
              try clear c6
              try clear p6
              try clear c47
              try clear c47b0
              try clear c47b1
              try clear c48
              try clear c48b0
              try clear c49
              try clear c49b0
              try clear c56
              try clear c58
              try clear c58b0
              try clear c59
              try clear c61
              try clear zodc
              try clear zodd
              try clear zode
              try clear zodf
              try clear zodg
              try clear zodm
              try clear zodn
              try clear zodo
              try clear zodp
              try clear zodq
              try clear zodh
              try clear zodi
              try clear zodj
              try clear zodk
              try clear zodl
              try clear zodr
              try clear zods
              try clear zodt
              try clear zodu
              try clear zodv
              try clear p2
              try clear p6
              obtain ⟨kq, zobk, rfl, HA, HJ56, zoao, zoan, HB⟩ := hcut
              cases kq with
              | zero => exact absurd HA.out (by simp [stowageref04_Disk_Wrong.j4])
              | succ kj56 =>
               have H := HA.out
               clear HA
               simp only [stowageref04_Disk_Wrong.j4] at H
               by_cases c63 : zobk = true
               ·subst c63
                have H1 : (some 4) = some r := by rw [if_pos rfl] at H; exact H
                clear H
                have H := H1
                clear H1
                obtain rfl := Option.some.inj H
                go_wp2
                go_ret
                exact ⟨by first | rfl | (simp [errW_none, errW_some] <;> rfl) | (simp [*, errW_none, errW_some] <;> rfl), by repeat (first | (with_reducible first | exact HB.out | apply zoaj | apply zoah | apply zoai | refine zoag ?_ zoar.out | refine zoag ?_ zoat.out) | exact HB.out)⟩
               ·replace c63 := Bool.eq_false_iff.mpr c63
                subst c63
                have H1 : (if a1_0 = 2 then (stowageref04_Disk_Wrong.j5 kj56 zoay (a1_1.toList == a1_2.toList) a1_0 a1_1 a1_2 a1_3 a1_4) else (stowageref04_Disk_Wrong.j5 kj56 zoay false a1_0 a1_1 a1_2 a1_3 a1_4)) = some r := by rw [if_neg (show ¬ (false = true) by decide)] at H; exact H
                clear H
                have H := H1
                clear H1
                have HC64 := zoam H
                clear H
                go_upto_region 16 with (fail)
                go_cut [104] (fun v104 wc => ∃ (kq : Nat) (zobh : Bool), v104 = .bool zobh ∧ Aside0 (stowageref04_Disk_Wrong.j5 kq zoay zobh a1_0 a1_1 a1_2 a1_3 a1_4 = some r) ∧ Aside0 (kq ≤ kj56) ∧ Aside0 (wc.heap[zoaq]? = some (.cells #[(.slice A0_0 l0_0.length c0_0), (.slice A0_1 l0_1.length c0_1), .int .i64 a0_2, .bool false, (.slice A0_4 l0_4.length c0_4), .int .i64 a0_5] 57 (0, 0))) ∧ Aside0 (wc.heap[zoap]? = some (.cells #[.int .i64 a1_0, .string a1_1, .string a1_2, .string a1_3, .int .i64 a1_4] 86 (0, 0))) ∧ Aside0 (Below w.heap.size w wc))
                case first =>
                 have H := HC64.out
                 clear HC64
                 by_cases c65 : a1_0 = 2
                 ·rw [if_pos c65] at H
                  have c65b0 : (a1_0 == 2) = true := beq_iff_eq.mpr c65
                  have c65b1 : (a1_0 != 2) = false := bne_eq_false_iff_eq.mpr c65
                  clear c65
                  (first | rw [c65b0] | (simp only [i64_w, i32_w]; rw [c65b0]) | skip)
                  have H' := zoam H
                  clear H
                  have hnb66 := zoba.out
                  have hnc66 := zoaz.out
                  have zofg : wc.cell? ⟨zoap, 0, none⟩ = some (.int .i64 a1_0) := (zoak zoan.out 0).trans rfl
                  have zofh : wc.cell? ⟨zoap, 1, none⟩ = some (.string a1_1) := (zoak zoan.out 1).trans rfl
                  have zofi : wc.cell? ⟨zoap, 2, none⟩ = some (.string a1_2) := (zoak zoan.out 2).trans rfl
                  have zofj : wc.cell? ⟨zoap, 3, none⟩ = some (.string a1_3) := (zoak zoan.out 3).trans rfl
                  have zofk : wc.cell? ⟨zoap, 4, none⟩ = some (.int .i64 a1_4) := (zoak zoan.out 4).trans rfl
                  have zofl := zoal zoan.out 0
                  have zofm := zoal zoan.out 1
                  have zofn := zoal zoan.out 2
                  have zofo := zoal zoan.out 3
                  have zofp := zoal zoan.out 4
                  go_wp2
                  go_meet
                  case rel => exact ⟨_, ((a1_1.toList == a1_2.toList)), (by first | rfl | (simp; done) | (simp [*]; done)), H', ⟨by have := HJ7.out; have := HJ25.out; have := HJ34.out; have := HJ45.out; have := HJ56.out; first | omega | exact Nat.le_refl _⟩, ⟨zbk zoao⟩, ⟨zbk zoan⟩, ⟨by repeat (first | (with_reducible first | exact HB.out | apply zoaj | apply zoah | apply zoai | refine zoag ?_ zoar.out | refine zoag ?_ zoat.out) | exact HB.out)⟩⟩
                 ·rw [if_neg c65] at H
                  have c65b0 : (a1_0 == 2) = false := beq_eq_false_iff_ne.mpr c65
                  have c65b1 : (a1_0 != 2) = true := bne_iff_ne.mpr c65
                  (first | rw [c65b0] | (simp only [i64_w, i32_w]; rw [c65b0]) | skip)
                  have H' := zoam H
                  clear H
                  have hnb68 := zoba.out
                  have hnc68 := zoaz.out
                  have zofq : wc.cell? ⟨zoap, 0, none⟩ = some (.int .i64 a1_0) := (zoak zoan.out 0).trans rfl
                  have zofr : wc.cell? ⟨zoap, 1, none⟩ = some (.string a1_1) := (zoak zoan.out 1).trans rfl
                  have zofs : wc.cell? ⟨zoap, 2, none⟩ = some (.string a1_2) := (zoak zoan.out 2).trans rfl
                  have zoft : wc.cell? ⟨zoap, 3, none⟩ = some (.string a1_3) := (zoak zoan.out 3).trans rfl
                  have zofu : wc.cell? ⟨zoap, 4, none⟩ = some (.int .i64 a1_4) := (zoak zoan.out 4).trans rfl
                  have zofv := zoal zoan.out 0
                  have zofw := zoal zoan.out 1
                  have zofx := zoal zoan.out 2
                  have zofy := zoal zoan.out 3
                  have zofz := zoal zoan.out 4
                  go_wp2
                  go_meet
                  case rel => exact ⟨_, (false), (by first | rfl | (simp; done) | (simp [*]; done)), H', ⟨by have := HJ7.out; have := HJ25.out; have := HJ34.out; have := HJ45.out; have := HJ56.out; first | omega | exact Nat.le_refl _⟩, ⟨zbk zoao⟩, ⟨zbk zoan⟩, ⟨by repeat (first | (with_reducible first | exact HB.out | apply zoaj | apply zoah | apply zoai | refine zoag ?_ zoar.out | refine zoag ?_ zoat.out) | exact HB.out)⟩⟩
                case rest =>
                 clear HC64
                 try clear p2
                 try clear c4
                 try clear c5
                 try clear c6
                 try clear p6
                 try clear c47
                 try clear c47b0
                 try clear c47b1
                 try clear c48
                 try clear c48b0
                 try clear c49
                 try clear c49b0
                 try clear c56
                 try clear c58
                 try clear c58b0
                 try clear c59
                 try clear c61
                 try clear c63
                 try clear p64
                 try clear c65
                 try clear c65b0
                 try clear c65b1
                 try clear c66
                 try clear c68
                 try clear zodc
                 try clear zodd
                 try clear zode
                 try clear zodf
                 try clear zodg
                 try clear zodm
                 try clear zodn
                 try clear zodo
                 try clear zodp
                 try clear zodq
                 try clear zofg
                 try clear zofh
                 try clear zofi
                 try clear zofj
                 try clear zofk
                 try clear zofq
                 try clear zofr
                 try clear zofs
                 try clear zoft
                 try clear zofu
                 try clear zodh
                 try clear zodi
                 try clear zodj
                 try clear zodk
                 try clear zodl
                 try clear zodr
                 try clear zods
                 try clear zodt
                 try clear zodu
                 try clear zodv
                 try clear zofl
                 try clear zofm
                 try clear zofn
                 try clear zofo
                 try clear zofp
                 try clear zofv
                 try clear zofw
                 try clear zofx
                 try clear zofy
                 try clear zofz
                 try clear p2
                 try clear p6
                 obtain ⟨kq, zobh, rfl, HA, HJ63, zoao, zoan, HB⟩ := hcut
                 cases kq with
                 | zero => exact absurd HA.out (by simp [stowageref04_Disk_Wrong.j5])
                 | succ kj63 =>
                  have H := HA.out
                  clear HA
                  simp only [stowageref04_Disk_Wrong.j5] at H
                  by_cases c70 : zobh = true
                  ·subst c70
                   have H1 : (some 1) = some r := by rw [if_pos rfl] at H; exact H
                   clear H
                   have H := H1
                   clear H1
                   obtain rfl := Option.some.inj H
                   go_wp2
                   go_ret
                   exact ⟨by first | rfl | (simp [errW_none, errW_some] <;> rfl) | (simp [*, errW_none, errW_some] <;> rfl), by repeat (first | (with_reducible first | exact HB.out | apply zoaj | apply zoah | apply zoai | refine zoag ?_ zoar.out | refine zoag ?_ zoat.out) | exact HB.out)⟩
                  ·replace c70 := Bool.eq_false_iff.mpr c70
                   subst c70
                   have H1 : (if a1_0 = 4 then (if a1_4 < 0 then (some 1) else (if a1_4 > zoay then (some 1) else (some 0))) else (some 0)) = some r := by rw [if_neg (show ¬ (false = true) by decide)] at H; exact H
                   clear H
                   have H := H1
                   clear H1
                   by_cases c71 : a1_0 = 4
                   ·rw [if_pos c71] at H
                    have c71b0 : (a1_0 == 4) = true := beq_iff_eq.mpr c71
                    have c71b1 : (a1_0 != 4) = false := bne_eq_false_iff_eq.mpr c71
                    clear c71
                    by_cases c72 : a1_4 < 0
                    ·rw [if_pos c72] at H
                     have c72b0 : decide (a1_4 < 0) = true := decide_eq_true c72
                     clear c72
                     obtain rfl := Option.some.inj H
                     have hnb73 := zoba.out
                     have hnc73 := zoaz.out
                     have zoga : wc.cell? ⟨zoap, 0, none⟩ = some (.int .i64 a1_0) := (zoak zoan.out 0).trans rfl
                     have zogb : wc.cell? ⟨zoap, 1, none⟩ = some (.string a1_1) := (zoak zoan.out 1).trans rfl
                     have zogc : wc.cell? ⟨zoap, 2, none⟩ = some (.string a1_2) := (zoak zoan.out 2).trans rfl
                     have zogd : wc.cell? ⟨zoap, 3, none⟩ = some (.string a1_3) := (zoak zoan.out 3).trans rfl
                     have zoge : wc.cell? ⟨zoap, 4, none⟩ = some (.int .i64 a1_4) := (zoak zoan.out 4).trans rfl
                     have zogf := zoal zoan.out 0
                     have zogg := zoal zoan.out 1
                     have zogh := zoal zoan.out 2
                     have zogi := zoal zoan.out 3
                     have zogj := zoal zoan.out 4
                     go_wp2
                     go_ret
                     exact ⟨by first | rfl | (simp [errW_none, errW_some] <;> rfl) | (simp [*, errW_none, errW_some] <;> rfl), by repeat (first | (with_reducible first | exact HB.out | apply zoaj | apply zoah | apply zoai | refine zoag ?_ zoar.out | refine zoag ?_ zoat.out) | exact HB.out)⟩
                    ·rw [if_neg c72] at H
                     have c72b0 : decide (a1_4 < 0) = false := decide_eq_false c72
                     clear c72
                     by_cases c75 : a1_4 > zoay
                     ·rw [if_pos c75] at H
                      have c75b0 : decide (zoay < a1_4) = true := decide_eq_true c75
                      clear c75
                      obtain rfl := Option.some.inj H
                      have hnb76 := zoba.out
                      have hnc76 := zoaz.out
                      have zogk : wc.cell? ⟨zoap, 0, none⟩ = some (.int .i64 a1_0) := (zoak zoan.out 0).trans rfl
                      have zogl : wc.cell? ⟨zoap, 1, none⟩ = some (.string a1_1) := (zoak zoan.out 1).trans rfl
                      have zogm : wc.cell? ⟨zoap, 2, none⟩ = some (.string a1_2) := (zoak zoan.out 2).trans rfl
                      have zogn : wc.cell? ⟨zoap, 3, none⟩ = some (.string a1_3) := (zoak zoan.out 3).trans rfl
                      have zogo : wc.cell? ⟨zoap, 4, none⟩ = some (.int .i64 a1_4) := (zoak zoan.out 4).trans rfl
                      have zogp := zoal zoan.out 0
                      have zogq := zoal zoan.out 1
                      have zogr := zoal zoan.out 2
                      have zogs := zoal zoan.out 3
                      have zogt := zoal zoan.out 4
                      go_wp2
                      go_ret
                      exact ⟨by first | rfl | (simp [errW_none, errW_some] <;> rfl) | (simp [*, errW_none, errW_some] <;> rfl), by repeat (first | (with_reducible first | exact HB.out | apply zoaj | apply zoah | apply zoai | refine zoag ?_ zoar.out | refine zoag ?_ zoat.out) | exact HB.out)⟩
                     ·rw [if_neg c75] at H
                      have c75b0 : decide (zoay < a1_4) = false := decide_eq_false c75
                      clear c75
                      obtain rfl := Option.some.inj H
                      have hnb78 := zoba.out
                      have hnc78 := zoaz.out
                      have zogu : wc.cell? ⟨zoap, 0, none⟩ = some (.int .i64 a1_0) := (zoak zoan.out 0).trans rfl
                      have zogv : wc.cell? ⟨zoap, 1, none⟩ = some (.string a1_1) := (zoak zoan.out 1).trans rfl
                      have zogw : wc.cell? ⟨zoap, 2, none⟩ = some (.string a1_2) := (zoak zoan.out 2).trans rfl
                      have zogx : wc.cell? ⟨zoap, 3, none⟩ = some (.string a1_3) := (zoak zoan.out 3).trans rfl
                      have zogy : wc.cell? ⟨zoap, 4, none⟩ = some (.int .i64 a1_4) := (zoak zoan.out 4).trans rfl
                      have zogz := zoal zoan.out 0
                      have zoha := zoal zoan.out 1
                      have zohb := zoal zoan.out 2
                      have zohc := zoal zoan.out 3
                      have zohd := zoal zoan.out 4
                      go_wp2
                      go_ret
                      exact ⟨by first | rfl | (simp [errW_none, errW_some] <;> rfl) | (simp [*, errW_none, errW_some] <;> rfl), by repeat (first | (with_reducible first | exact HB.out | apply zoaj | apply zoah | apply zoai | refine zoag ?_ zoar.out | refine zoag ?_ zoat.out) | exact HB.out)⟩
                   ·rw [if_neg c71] at H
                    have c71b0 : (a1_0 == 4) = false := beq_eq_false_iff_ne.mpr c71
                    have c71b1 : (a1_0 != 4) = true := bne_iff_ne.mpr c71
                    obtain rfl := Option.some.inj H
                    have hnb80 := zoba.out
                    have hnc80 := zoaz.out
                    have zohe : wc.cell? ⟨zoap, 0, none⟩ = some (.int .i64 a1_0) := (zoak zoan.out 0).trans rfl
                    have zohf : wc.cell? ⟨zoap, 1, none⟩ = some (.string a1_1) := (zoak zoan.out 1).trans rfl
                    have zohg : wc.cell? ⟨zoap, 2, none⟩ = some (.string a1_2) := (zoak zoan.out 2).trans rfl
                    have zohh : wc.cell? ⟨zoap, 3, none⟩ = some (.string a1_3) := (zoak zoan.out 3).trans rfl
                    have zohi : wc.cell? ⟨zoap, 4, none⟩ = some (.int .i64 a1_4) := (zoak zoan.out 4).trans rfl
                    have zohj := zoal zoan.out 0
                    have zohk := zoal zoan.out 1
                    have zohl := zoal zoan.out 2
                    have zohm := zoal zoan.out 3
                    have zohn := zoal zoan.out 4
                    go_wp2
                    go_ret
                    exact ⟨by first | rfl | (simp [errW_none, errW_some] <;> rfl) | (simp [*, errW_none, errW_some] <;> rfl), by repeat (first | (with_reducible first | exact HB.out | apply zoaj | apply zoah | apply zoai | refine zoag ?_ zoar.out | refine zoag ?_ zoat.out) | exact HB.out)⟩

end Go.Proofs.Ytabngibognlmoaa.Q