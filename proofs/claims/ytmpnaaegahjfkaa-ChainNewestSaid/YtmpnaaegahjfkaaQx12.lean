

/- Written by a program of this session (wip/patch_print.py over the kit's print): functions of the given program as plain Lean functions, and that each call does what its function says, under no further conditions. -/
import Derived.Test.YtmpnaaegahjfkaaQx0
import Derived.Test.YtmpnaaegahjfkaaQx9
import Derived.Test.YtmpnaaegahjfkaaQx11
namespace Go.Proofs.Ytmpnaaegahjfkaa.Q
open Go.RowKit Go.Proofs.YtmpnaaegahjfkaaW.PrintWords Go.Proofs.YtmpnaaegahjfkaaW.PrintLast Go.Proofs.YtmpnaaegahjfkaaW.PrintMore
attribute [local go_sem] max2_int min2_int max_two min_two max_three min_three max_four min_four   -- for this text's walks alone
set_option linter.unusedVariables false
set_option linter.unusedSimpArgs false
attribute [local go_sem] xor_ones_u8 xor_ones_u16 xor_ones_u32 xor_ones_u64 cell_twice frozen_twice
/-! ### stowageref13_Put: function 17 -/
mutual
def stowageref13_Put.j0 : Nat → List (S36) → Bool → Int → Bool → Int → ByteArray → List (S74) → Option ((List (S36)) × Int)
 | 0, _, _, _, _, _, _, _ => none
 | k + 1, x0, x14, zamar, zamat, zamau, zamav, zamaw => if x14 = true then (some (([] : List (S36)), 1)) else (stowageref13_Put.l0 k x0 0 zamar zamat zamau zamav zamaw)
def stowageref13_Put.l0 : Nat → List (S36) → Int → Int → Bool → Int → ByteArray → List (S74) → Option ((List (S36)) × Int)
 | 0, _, _, _, _, _, _, _ => none
 | k + 1, x0, x6, zamar, zamat, zamau, zamav, zamaw => if x6 < (x0.length : Int) then (if 0 ≤ x6 then (if ((rd_T36 x0 x6).f0) ≥ zamar then (some (([] : List (S36)), 1)) else (stowageref13_Put.l0 k x0 (wrap64 (x6 + 1)) zamar zamat zamau zamav zamaw)) else (none)) else (if (x0.length : Int) ≥ 32 then (some (([] : List (S36)), 131)) else ((some (([(⟨zamar, zamat, zamau, zamav, zamaw⟩ : S36)] : List (S36)) : List (S36))).bind fun y249 => (if y249.length + x0.length < 2199023255552 then (some ((y249 ++ x0), 0)) else (none))))
end
def stowageref13_Put.f (k : Nat) (l0 : List (S36)) (a1_0 : Int) (a1_1 : Bool) (a1_2 : Int) (a1_3 : ByteArray) (l1_4 : List (S74)) : Option ((List (S36)) × Int) := (stowageref13_May.f k l0).bind fun t246 => (if t246 = true then ((stowageref13_Check.f k a1_0 a1_1 a1_2 a1_3 l1_4).bind fun t247 => (stowageref13_Put.j0 k l0 (t247 != 0) a1_0 a1_1 a1_2 a1_3 l1_4)) else (stowageref13_Put.j0 k l0 true a1_0 a1_1 a1_2 a1_3 l1_4))
/-! ### stowagelaw13_Refs: function 18 -/
/-! ### stowageref13_Drop: function 20 -/
def stowageref13_Drop.l0 : Nat → List (S36) → Int → List (S36) → Int → Option ((List (S36)) × Int)
 | 0, _, _, _, _ => none
 | k + 1, x0, x1, x6, x7 => if x7 < (x0.length : Int) then (if 0 ≤ x7 then (if ((rd_T36 x0 x7).f0) = x1 then (stowageref13_Drop.l0 k x0 x1 x6 (wrap64 (x7 + 1))) else (if x6.length < 2199023255552 then (stowageref13_Drop.l0 k x0 x1 (x6 ++ [(⟨(rd_T36 x0 x7).f0, (rd_T36 x0 x7).f1, (rd_T36 x0 x7).f2, (rd_T36 x0 x7).f3, (rd_T36 x0 x7).f4⟩ : S36)]) (wrap64 (x7 + 1))) else (none))) else (none)) else (if (x6.length : Int) = (x0.length : Int) then (some (([] : List (S36)), 4)) else (some (x6, 0)))
def stowageref13_Drop.f (k : Nat) (l0 : List (S36)) (a1 : Int) : Option ((List (S36)) × Int) := (stowageref13_May.f k l0).bind fun t266 => (if t266 = true then (stowageref13_Drop.l0 k l0 a1 ([] : List (S36)) 0) else (some (([] : List (S36)), 1)))
end Go.Proofs.Ytmpnaaegahjfkaa.Q