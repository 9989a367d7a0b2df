

/- Written by a program of this session (wip/patch_print.py over the kit's print): functions of the given program as plain Lean functions, and that each call does what its function says, under no further conditions. -/
import Derived.Test.YtmpnaaegahjfkaaQx0
namespace Go.Proofs.Ytmpnaaegahjfkaa.Q
open Go.RowKit Go.Proofs.YtmpnaaegahjfkaaW.PrintWords Go.Proofs.YtmpnaaegahjfkaaW.PrintLast Go.Proofs.YtmpnaaegahjfkaaW.PrintMore
attribute [local go_sem] max2_int min2_int max_two min_two max_three min_three max_four min_four   -- for this text's walks alone
set_option linter.unusedVariables false
set_option linter.unusedSimpArgs false
attribute [local go_sem] xor_ones_u8 xor_ones_u16 xor_ones_u32 xor_ones_u64 cell_twice frozen_twice
/-! ### stowageref03_Unhex: function 57 -/
mutual
def stowageref03_Unhex.l0 : Nat → ByteArray → List Int → Int → Int → Option (ByteArray × Int)
 | 0, _, _, _, _ => none
 | k + 1, x0, x4, x5, x6 => if x6 < (x0.size : Int) then (if 0 ≤ x6 then (if (bt x0 x6) ≥ 48 then (stowageref03_Unhex.j1 k x0 x4 x5 x6 (-1) (decide ((bt x0 x6) ≤ 57))) else (stowageref03_Unhex.j1 k x0 x4 x5 x6 (-1) false)) else (none)) else (some (strOfNums x4, 0))
def stowageref03_Unhex.j1 : Nat → ByteArray → List Int → Int → Int → Int → Bool → Option (ByteArray × Int)
 | 0, _, _, _, _, _, _ => none
 | k + 1, x0, x4, x5, x6, x7, x27 => if x27 = true then (if 0 ≤ x6 then (if x6 < (x0.size : Int) then (stowageref03_Unhex.j2 k x0 x4 x5 x6 (wrap64 ((wrap64 (bt x0 x6)) - 48))) else (none)) else (none)) else (stowageref03_Unhex.j2 k x0 x4 x5 x6 x7)
def stowageref03_Unhex.j2 : Nat → ByteArray → List Int → Int → Int → Int → Option (ByteArray × Int)
 | 0, _, _, _, _, _ => none
 | k + 1, x0, x4, x5, x6, x7 => if 0 ≤ x6 then (if x6 < (x0.size : Int) then (if (bt x0 x6) ≥ 97 then (stowageref03_Unhex.j3 k x0 x4 x5 x6 x7 (decide ((bt x0 x6) ≤ 102))) else (stowageref03_Unhex.j3 k x0 x4 x5 x6 x7 false)) else (none)) else (none)
def stowageref03_Unhex.j3 : Nat → ByteArray → List Int → Int → Int → Int → Bool → Option (ByteArray × Int)
 | 0, _, _, _, _, _, _ => none
 | k + 1, x0, x4, x5, x6, x7, x42 => if x42 = true then (if 0 ≤ x6 then (if x6 < (x0.size : Int) then (stowageref03_Unhex.j4 k x0 x4 x5 x6 (wrap64 ((wrap64 (bt x0 x6)) - 87))) else (none)) else (none)) else (stowageref03_Unhex.j4 k x0 x4 x5 x6 x7)
def stowageref03_Unhex.j4 : Nat → ByteArray → List Int → Int → Int → Int → Option (ByteArray × Int)
 | 0, _, _, _, _, _ => none
 | k + 1, x0, x4, x5, x6, x7 => if x7 < 0 then (some ((⟨#[]⟩ : ByteArray), 3)) else (if (Int.tmod x6 2) = 1 then (if x4.length < 140737488355328 then (stowageref03_Unhex.l0 k x0 (x4 ++ [(wrap64 ((wrap64 ((Int.tmod x5 16) * 16)) + x7)) % 256]) (wrap64 ((wrap64 ((Int.tmod x5 16) * 16)) + x7)) (wrap64 (x6 + 1))) else (none)) else (stowageref03_Unhex.l0 k x0 x4 (wrap64 ((wrap64 ((Int.tmod x5 16) * 16)) + x7)) (wrap64 (x6 + 1))))
end
def stowageref03_Unhex.f (k : Nat) (a0 : ByteArray) : Option (ByteArray × Int) := if ((a0.size : Int) % 2) = 0 then (stowageref03_Unhex.l0 k a0 ([] : List Int) 0 0) else (some ((⟨#[]⟩ : ByteArray), 3))
/-! ### stowageref06_May: function 35 -/
def stowageref06_May.f (k : Nat) (a0 : ByteArray) : Option (Bool) := (stowageref03_Unhex.f k a0).bind fun bt107 => (if bt107.2 = 0 then (some ((a0.size : Int) == 64)) else (some false))
/-! ### stowageref13_Pieces: function 10 -/
def stowageref13_Pieces.l0 : Nat → List (S74) → Int → Int → Option (Int × Int)
 | 0, _, _, _ => none
 | k + 1, x0, x4, x5 => if x5 < (x0.length : Int) then (if 0 ≤ x5 then ((stowageref06_May.f k ((rd_T74 x0 x5).f0)).bind fun t110 => (if t110 = true then (if ((rd_T74 x0 x5).f1) < 1 then (some (0, 1)) else (if ((rd_T74 x0 x5).f1) > 4096 then (some (0, 1)) else (stowageref13_Pieces.l0 k x0 (wrap64 (x4 + ((rd_T74 x0 x5).f1))) (wrap64 (x5 + 1))))) else (some (0, 1)))) else (none)) else (if (x0.length : Int) > 512 then (some (0, 1)) else (some (x4, 0)))
def stowageref13_Pieces.f (k : Nat) (l0 : List (S74)) : Option (Int × Int) := stowageref13_Pieces.l0 k l0 0 0
end Go.Proofs.Ytmpnaaegahjfkaa.Q