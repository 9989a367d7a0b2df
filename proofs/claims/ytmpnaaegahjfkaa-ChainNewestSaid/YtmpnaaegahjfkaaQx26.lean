

/- Written by a program of this session (wip/patch_print.py over the kit's print): functions of the given program as plain Lean functions, and that each call does what its function says, under no further conditions. -/
import Derived.Test.YtmpnaaegahjfkaaQx0
import Derived.Test.YtmpnaaegahjfkaaQx7
import Derived.Test.YtmpnaaegahjfkaaQx8
import Derived.Test.YtmpnaaegahjfkaaQx9
import Derived.Test.YtmpnaaegahjfkaaQx13
import Derived.Test.YtmpnaaegahjfkaaQx16
namespace Go.Proofs.Ytmpnaaegahjfkaa.Q
open Go.RowKit Go.Proofs.YtmpnaaegahjfkaaW.PrintWords Go.Proofs.YtmpnaaegahjfkaaW.PrintLast Go.Proofs.YtmpnaaegahjfkaaW.PrintMore
attribute [local go_sem] max2_int min2_int max_two min_two max_three min_three max_four min_four   -- for this text's walks alone
set_option linter.unusedVariables false
set_option linter.unusedSimpArgs false
attribute [local go_sem] xor_ones_u8 xor_ones_u16 xor_ones_u32 xor_ones_u64 cell_twice frozen_twice
abbrev zbaaa := @List.setIfInBounds_toArray
abbrev zbaab := @List.set_cons_zero
abbrev zbaac := @List.set_cons_succ
abbrev zbaad := @World.block_lt_of_cell?
abbrev zbaae := @blk_drewN
abbrev zbaaf := @blk_alloc
abbrev zbaag := @blk_drew
abbrev zbaah := @below_set
abbrev zbaai := @pw_below_drewN
abbrev zbaaj := @below_drew1
abbrev zbaak := @below_alloc
abbrev zbaal := @blk_cell
abbrev zbaam := @blk_frozen
abbrev zbaan := @List.map_toArray
abbrev zbaao := @List.map_cons
abbrev zbaap := @List.map_nil
abbrev zbaaq := @Aside0.mk
abbrev zbasq0 : Array Bool := #[false, false, false, false, false, false, false, false, false, false, false, false, false, false, false, false, false]
abbrev zbasq1 : Array Bool := #[false, true, false, false, false, false, false, false, false, false, false, false, false, false, false, false, false]
abbrev zbasq2 : Array Bool := #[false, true, true, false, false, false, false, false, false, false, false, false, false, false, false, false, false]
abbrev zbasq3 : Array Bool := #[false, true, true, true, false, false, false, false, false, false, false, false, false, false, false, false, false]
abbrev zbasq4 : Array Bool := #[false, true, true, true, true, false, false, false, false, false, false, false, false, false, false, false, false]
abbrev zbasq5 : Array Bool := #[false, true, true, true, true, false, false, false, true, false, false, false, false, false, false, false, false]
abbrev zbasq6 : Array Bool := #[false, true, true, true, true, false, false, false, true, true, false, false, false, false, false, false, false]
abbrev zbasq7 : Array Bool := #[false, true, true, true, true, false, false, false, true, true, true, false, false, false, false, false, false]
abbrev zbasq8 : Array Bool := #[false, true, true, true, true, false, false, false, true, true, true, true, false, false, false, false, false]
abbrev zbasq9 : Array Bool := #[false, true, true, true, true, true, false, false, true, true, true, true, false, false, false, false, false]
abbrev zbasq10 : Array Bool := #[false, true, true, true, true, true, true, false, true, true, true, true, false, false, false, false, false]
abbrev zbasq11 : Array Bool := #[false, true, true, true, true, true, true, false, true, true, true, true, true, false, false, false, false]
abbrev zbasq12 : Array Bool := #[false, true, true, true, true, true, true, false, true, true, true, true, true, true, false, false, false]
abbrev zbasq13 : Array Bool := #[false, true, true, true, true, true, true, false, true, true, true, true, true, true, true, false, false]
abbrev zbasq14 : Array Bool := #[true, true, true, true, true, true, true, false, true, true, true, true, true, true, true, false, false]
abbrev zbasq15 : Array Bool := #[true, true, true, true, true, true, true, true, true, true, true, true, true, true, true, false, false]
abbrev zbasq16 : Array Bool := #[true, true, true, true, true, true, true, true, true, true, true, true, true, true, true, true, false]
abbrev zbasq17 : Array Bool := #[true, true, true, true, true, true, true, true, true, true, true, true, true, true, true, true, true]
abbrev zbasq18 : Array Bool := #[false, false, false, false, false, false, false, false, false, false, false, false]
abbrev zbasq19 : Array Bool := #[true, false, false, false, false, false, false, false, false, false, false, false]
abbrev zbasq20 : Array Bool := #[true, true, false, false, false, false, false, false, false, false, false, false]
abbrev zbasq21 : Array Bool := #[true, true, true, false, false, false, false, false, false, false, false, false]
abbrev zbasq22 : Array Bool := #[true, true, true, false, false, true, false, false, false, false, false, false]
abbrev zbasq23 : Array Bool := #[true, true, true, false, false, true, true, false, false, false, false, false]
abbrev zbasq24 : Array Bool := #[true, true, true, false, false, true, true, true, false, false, false, false]
abbrev zbasq25 : Array Bool := #[true, true, true, true, false, true, true, true, false, false, false, false]
abbrev zbasq26 : Array Bool := #[true, true, true, true, false, true, true, true, true, false, false, false]
abbrev zbasq27 : Array Bool := #[true, true, true, true, true, true, true, true, true, false, false, false]
abbrev zbasq28 : Array Bool := #[true, true, true, true, true, true, true, true, true, true, false, false]
abbrev zbasq29 : Array Bool := #[true, true, true, true, true, true, true, true, true, true, true, false]
abbrev zbasq30 : Array Bool := #[true, true, true, true, true, true, true, true, true, true, true, true]
abbrev zbasq31 : Array Bool := #[false, false, false, false, false, false, false, false, false, false, false, false, false, false, false, false, false, false, false, false, false]
abbrev zbasq32 : Array Bool := #[true, false, false, false, false, false, false, false, false, false, false, false, false, false, false, false, false, false, false, false, false]
abbrev zbasq33 : Array Bool := #[true, false, true, false, false, false, false, false, false, false, false, false, false, false, false, false, false, false, false, false, false]
abbrev zbasq34 : Array Bool := #[true, false, true, true, false, false, false, false, false, false, false, false, false, false, false, false, false, false, false, false, false]
abbrev zbasq35 : Array Bool := #[true, true, true, true, false, false, false, false, false, false, false, false, false, false, false, false, false, false, false, false, false]
abbrev zbasq36 : Array Bool := #[true, true, true, true, true, false, false, false, false, false, false, false, false, false, false, false, false, false, false, false, false]
abbrev zbasq37 : Array Bool := #[true, true, true, true, true, true, false, false, false, false, false, false, false, false, false, false, false, false, false, false, false]
abbrev zbasq38 : Array Bool := #[true, true, true, true, true, true, true, false, false, false, false, false, false, false, false, false, false, false, false, false, false]
abbrev zbasq39 : Array Bool := #[true, true, true, true, true, true, true, true, false, false, false, false, false, false, false, false, false, false, false, false, false]
abbrev zbasq40 : Array Bool := #[true, true, true, true, true, true, true, true, true, false, false, false, false, false, false, false, false, false, false, false, false]
abbrev zbasq41 : Array Bool := #[true, true, true, true, true, true, true, true, true, true, false, false, false, false, false, false, false, false, false, false, false]
abbrev zbasq42 : Array Bool := #[true, true, true, true, true, true, true, true, true, true, true, false, false, false, false, false, false, false, false, false, false]
abbrev zbasq43 : Array Bool := #[true, true, true, true, true, true, true, true, true, true, true, true, false, false, false, false, false, false, false, false, false]
abbrev zbasq44 : Array Bool := #[true, true, true, true, true, true, true, true, true, true, true, true, true, false, false, false, false, false, false, false, false]
abbrev zbasq45 : Array Bool := #[true, true, true, true, true, true, true, true, true, true, true, true, true, true, false, false, false, false, false, false, false]
abbrev zbasq46 : Array Bool := #[true, true, true, true, true, true, true, true, true, true, true, true, true, true, true, false, false, false, false, false, false]
abbrev zbasq47 : Array Bool := #[true, true, true, true, true, true, true, true, true, true, true, true, true, true, true, true, false, false, false, false, false]
abbrev zbasq48 : Array Bool := #[true, true, true, true, true, true, true, true, true, true, true, true, true, true, true, true, true, false, false, false, false]
abbrev zbasq49 : Array Bool := #[true, true, true, true, true, true, true, true, true, true, true, true, true, true, true, true, true, true, false, false, false]
abbrev zbasq50 : Array Bool := #[true, true, true, true, true, true, true, true, true, true, true, true, true, true, true, true, true, true, true, false, false]
abbrev zbasq51 : Array Bool := #[true, true, true, true, true, true, true, true, true, true, true, true, true, true, true, true, true, true, true, true, false]
abbrev zbasq52 : Array Bool := #[true, true, true, true, true, true, true, true, true, true, true, true, true, true, true, true, true, true, true, true, true]
abbrev zbasq53 : Array Bool := #[true, true, true, true, true, true, true, true, true, true, true, true, true, true, false, true, false, false, false, false, false]
/-! ### stowagelaw13_ChainNewest: function 5 -/
mutual
def stowagelaw13_ChainNewest.l0 : Nat → List (S24) → List Int → List (S24) → List (S36) → Int → Option (Bool)
 | 0, _, _, _, _, _ => none
 | k + 1, x0, x1, x5, x6, x7 => if x7 < (x0.length : Int) then (stowagelaw13_ChainNewest.j1 k x0 x1 x5 x6 x7 (decide (x7 < 40))) else (stowagelaw13_ChainNewest.j1 k x0 x1 x5 x6 x7 false)
def stowagelaw13_ChainNewest.j1 : Nat → List (S24) → List Int → List (S24) → List (S36) → Int → Bool → Option (Bool)
 | 0, _, _, _, _, _, _ => none
 | k + 1, x0, x1, x5, x6, x7, x25 => if x25 = true then (if 0 ≤ x7 then (if x7 < (x0.length : Int) then ((chain_Put.f k x5 ((rd_T24 x0 x7).f0) ((rd_T24 x0 x7).f1) ((rd_T24 x0 x7).f2) ((rd_T24 x0 x7).f3) ((rd_T24 x0 x7).f4)).bind fun bt684 => (if bt684.2 = 0 then ((stowagelaw13_Ref.f k ((rd_T24 x0 x7).f0) ((rd_T24 x0 x7).f1) ((rd_T24 x0 x7).f2) ((rd_T24 x0 x7).f3) ((rd_T24 x0 x7).f4)).bind fun bt689 => (if x6.length < 2199023255552 then (stowagelaw13_ChainNewest.j2 k x0 x1 bt684.1 (x6 ++ [(⟨bt689.1, bt689.2.1, bt689.2.2.1, bt689.2.2.2.1, bt689.2.2.2.2⟩ : S36)]) x7) else (none))) else (stowagelaw13_ChainNewest.j2 k x0 x1 x5 x6 x7))) else (none)) else (none)) else (some true)
def stowagelaw13_ChainNewest.j2 : Nat → List (S24) → List Int → List (S24) → List (S36) → Int → Option (Bool)
 | 0, _, _, _, _, _ => none
 | k + 1, x0, x1, x5, x6, x7 => if x7 < (x1.length : Int) then (if (x6.length : Int) > 0 then (if 0 ≤ x7 then (if (rd x1 x7) ≥ 0 then (stowagelaw13_ChainNewest.j3 k x0 x1 x5 x6 x7 (decide ((rd x1 x7) < (x6.length : Int)))) else (stowagelaw13_ChainNewest.j3 k x0 x1 x5 x6 x7 false)) else (none)) else (stowagelaw13_ChainNewest.j3 k x0 x1 x5 x6 x7 false)) else (stowagelaw13_ChainNewest.j3 k x0 x1 x5 x6 x7 false)
def stowagelaw13_ChainNewest.j3 : Nat → List (S24) → List Int → List (S24) → List (S36) → Int → Bool → Option (Bool)
 | 0, _, _, _, _, _, _ => none
 | k + 1, x0, x1, x5, x6, x7, x72 => if x72 = true then (if 0 ≤ x7 then (if x7 < (x1.length : Int) then (if 0 ≤ (rd x1 x7) then (if (rd x1 x7) < (x6.length : Int) then ((chain_Drop.f k x5 ((rd_T36 x6 (rd x1 x7)).f0)).bind fun bt703 => (if bt703.2 = 0 then ((some (([] : List (S36)) : List (S36))).bind fun y707 => (if (rd x1 x7) ≤ (x6.length : Int) then ((some (x6.take ((rd x1 x7) : Int).toNat : List (S36))).bind fun y711 => (if y707.length + y711.length < 2199023255552 then ((some (y707 ++ y711 : List (S36))).bind fun y716 => (if 0 ≤ (wrap64 ((rd x1 x7) + 1)) then (if (wrap64 ((rd x1 x7) + 1)) ≤ (x6.length : Int) then ((some (x6.drop ((wrap64 ((rd x1 x7) + 1)) : Int).toNat : List (S36))).bind fun y720 => (if y716.length + y720.length < 2199023255552 then (stowagelaw13_ChainNewest.j4 k x0 x1 bt703.1 (y716 ++ y720) x7) else (none))) else (none)) else (none))) else (none))) else (none))) else (some false))) else (none)) else (none)) else (none)) else (none)) else (stowagelaw13_ChainNewest.j4 k x0 x1 x5 x6 x7)
def stowagelaw13_ChainNewest.j4 : Nat → List (S24) → List Int → List (S24) → List (S36) → Int → Option (Bool)
 | 0, _, _, _, _, _ => none
 | k + 1, x0, x1, x5, x6, x7 => if (x5.length : Int) = (x6.length : Int) then (stowagelaw13_ChainNewest.l1 k x0 x1 x5 x6 x7 0) else (some false)
def stowagelaw13_ChainNewest.l1 : Nat → List (S24) → List Int → List (S24) → List (S36) → Int → Int → Option (Bool)
 | 0, _, _, _, _, _, _ => none
 | k + 1, x0, x1, x5, x6, x7, x10 => if x10 < (x6.length : Int) then (if 0 ≤ x10 then ((chain_Find.f k x5 ((rd_T36 x6 x10).f0)).bind fun bt729 => (if bt729.2.2.2.2.2 = 0 then ((stowagelaw13_Ref.f k bt729.1 bt729.2.1 bt729.2.2.1 bt729.2.2.2.1 bt729.2.2.2.2.1).bind fun bt738 => ((stowageref13_Same.f k bt738.1 bt738.2.1 bt738.2.2.1 bt738.2.2.2.1 bt738.2.2.2.2 ((rd_T36 x6 x10).f0) ((rd_T36 x6 x10).f1) ((rd_T36 x6 x10).f2) ((rd_T36 x6 x10).f3) ((rd_T36 x6 x10).f4)).bind fun t746 => (if t746 = true then (stowagelaw13_ChainNewest.l1 k x0 x1 x5 x6 x7 (wrap64 (x10 + 1))) else (some false)))) else (some false))) else (none)) else ((chain_Latest.f k x5).bind fun bt747 => (if (x6.length : Int) = 0 then (if bt747.2.2.2.2.2 = 4 then (stowagelaw13_ChainNewest.l0 k x0 x1 x5 x6 (wrap64 (x7 + 1))) else (some false)) else (if 0 ≤ (wrap64 ((x6.length : Int) - 1)) then (if (wrap64 ((x6.length : Int) - 1)) < (x6.length : Int) then (if (((rd_T36 x6 (wrap64 ((x6.length : Int) - 1))).f1) != (bt747.2.2.2.2.2 == 130)) = true then (some false) else (if ((rd_T36 x6 (wrap64 ((x6.length : Int) - 1))).f1 = true) then (stowagelaw13_ChainNewest.l0 k x0 x1 x5 x6 (wrap64 (x7 + 1))) else (if bt747.2.2.2.2.2 = 0 then ((stowagelaw13_Ref.f k bt747.1 bt747.2.1 bt747.2.2.1 bt747.2.2.2.1 bt747.2.2.2.2.1).bind fun bt758 => ((stowageref13_Same.f k bt758.1 bt758.2.1 bt758.2.2.1 bt758.2.2.2.1 bt758.2.2.2.2 ((rd_T36 x6 (wrap64 ((x6.length : Int) - 1))).f0) ((rd_T36 x6 (wrap64 ((x6.length : Int) - 1))).f1) ((rd_T36 x6 (wrap64 ((x6.length : Int) - 1))).f2) ((rd_T36 x6 (wrap64 ((x6.length : Int) - 1))).f3) ((rd_T36 x6 (wrap64 ((x6.length : Int) - 1))).f4)).bind fun t765 => (if t765 = true then (stowagelaw13_ChainNewest.l0 k x0 x1 x5 x6 (wrap64 (x7 + 1))) else (some false)))) else (some false)))) else (none)) else (none))))
end
def stowagelaw13_ChainNewest.f (k : Nat) (l0 : List (S24)) (l1 : List Int) : Option (Bool) := (stowagelaw13_awake.f k).bind fun t682 => (if t682 = true then (stowagelaw13_ChainNewest.l0 k l0 l1 ([] : List (S24)) ([] : List (S36)) 0) else (some false))
def stowagelaw13_ChainNewest.T17 : Bool × List (List Nat × List Nat) := (true, [([], []), ([], []), ([], []), ([], []), ([2, 3], [2, 3]), ([4], [4]), ([1, 5], [1, 5]), ([0, 6], [0, 6]), ([], []), ([], []), ([], []), ([9, 10], [9, 10]), ([11], [11]), ([12], [12]), ([8, 13], [8, 13]), ([7, 14, 7], [7, 14]), ([15, 15, 0, 1, 2, 3, 4, 5, 6, 7, 8, 9, 10, 11, 12, 13, 14, 15], [1, 8, 15])])
def stowagelaw13_ChainNewest.B17 : List Nat := [0, 0, 0, 0, 12, 28, 62, 127, 0, 0, 0, 1536, 3584, 7680, 16128, 32767, 65535]
theorem stowagelaw13_ChainNewest.tab17 : rtab .any (opsOf Try.f5 17) = stowagelaw13_ChainNewest.T17 := by kernel_rfl
theorem stowagelaw13_ChainNewest.bits17 : waitsOk stowagelaw13_ChainNewest.T17.2 stowagelaw13_ChainNewest.B17 = true := by kernel_rfl
def stowagelaw13_ChainNewest.T24 : Bool × List (List Nat × List Nat) := (true, [([], []), ([0], [0]), ([1], [1]), ([2], [2]), ([3, 2, 2], [2, 3]), ([2], [2]), ([2], [2]), ([5, 6, 2], [2, 5, 6]), ([7, 2], [2, 7]), ([4, 8, 4, 2], [2, 4, 8]), ([9, 2], [2, 9]), ([2, 10], [2, 10])])
def stowagelaw13_ChainNewest.B24 : List Nat := [0, 1, 3, 7, 15, 7, 7, 103, 231, 511, 1023, 2047]
theorem stowagelaw13_ChainNewest.tab24 : rtab .any (opsOf Try.f5 24) = stowagelaw13_ChainNewest.T24 := by kernel_rfl
theorem stowagelaw13_ChainNewest.bits24 : waitsOk stowagelaw13_ChainNewest.T24.2 stowagelaw13_ChainNewest.B24 = true := by kernel_rfl
def stowagelaw13_ChainNewest.T31 : Bool × List (List Nat × List Nat) := (true, [([], []), ([0], [0]), ([], []), ([2], [2]), ([1, 3], [1, 3]), ([4], [4]), ([5], [5]), ([6, 5], [5, 6]), ([7, 5], [5, 7]), ([8, 5, 5], [5, 8]), ([9], [9]), ([10, 9], [9, 10]), ([11, 9, 9], [9, 11]), ([12], [12]), ([13, 12, 12], [12, 13]), ([12], [12]), ([14, 15, 14, 12], [12, 14, 15]), ([16, 12], [12, 16]), ([12, 17, 9], [9, 12, 17]), ([9, 18, 5], [5, 9, 18]), ([5, 19], [5, 19])])
def stowagelaw13_ChainNewest.B31 : List Nat := [0, 1, 0, 4, 15, 31, 63, 127, 255, 511, 1023, 2047, 4095, 8191, 16383, 8191, 65535, 131071, 262143, 524287, 1048575]
theorem stowagelaw13_ChainNewest.tab31 : rtab .any (opsOf Try.f5 31) = stowagelaw13_ChainNewest.T31 := by kernel_rfl
theorem stowagelaw13_ChainNewest.bits31 : waitsOk stowagelaw13_ChainNewest.T31.2 stowagelaw13_ChainNewest.B31 = true := by kernel_rfl
set_option maxHeartbeats 8000000 in
set_option maxRecDepth 100000 in
theorem stowagelaw13_ChainNewest.calls (k : Nat) (A0 : Option Addr) (c0 : Nat) (l0 : List (S24)) (A1 : Option Addr) (c1 : Nat) (l1 : List Int) (r : Bool) (w : World) (hr0 : Kd.C k24 w A0 l0.length l0) (hc0 : l0.length ≤ c0) (hr1 : Kd.C (Kd.int .i64) w A1 l1.length l1) (hc1 : l1.length ≤ c1) (h : stowagelaw13_ChainNewest.f k l0 l1 = some r) (hT : r = true) :
  Calls Try.prog 5 #[.slice A0 l0.length c0, .slice A1 l1.length c1] w fun e w' => e = .returned (.bool r) ∧ Below w.heap.size w w' := by
 have hu24 := Try.underlying24
 have hu36 := Try.underlying36
 have HR0 := zbaaq hr0
 have HC0 := zbaaq hc0
 clear hr0 hc0
 have HR1 := zbaaq hr1
 have HC1 := zbaaq hc1
 clear hr1 hc1
 have HTR : Aside0 (r = true) := ⟨hT⟩
 clear hT
 have HB := zbaaq (Below.refl w.heap.size w)
 have H : ((stowagelaw13_awake.f k).bind fun t682 => (if t682 = true then (stowagelaw13_ChainNewest.l0 k l0 l1 ([] : List (S24)) ([] : List (S36)) 0) else (some false))) = some r := h
 clear h
 replace H := Option.bind_eq_some_iff.mp H
 obtain ⟨t682, A30, H⟩ := H
 replace H : (if t682 = true then (stowagelaw13_ChainNewest.l0 k l0 l1 ([] : List (S24)) ([] : List (S36)) 0) else (some false)) = some r := H
 have A3 := zbaaq A30
 clear A30
 by_cases c4 : t682 = true
 ·as_aux_lemma =>
  subst c4
  have H1 : (stowagelaw13_ChainNewest.l0 k l0 l1 ([] : List (S24)) ([] : List (S36)) 0) = some r := by rw [if_pos rfl] at H; exact H
  clear H
  have H := H1
  clear H1
  have H' := zbaaq H
  clear H
  go_enter Try.func5, Try.ntmps5
  go_wp2_with (first | ((with_reducible refine gate_callee (f := 12) rfl ?_); refine goesL_ (some 16) rfl rfl Try.func12 (by kernel_rfl) rfl #[] rfl (by (try simp only [zbaan, zbaao, zbaap]); first | done | rfl) ?_; (with_reducible refine (stowagelaw13_awake.calls k  true _ A3.out).mono ?_); rintro e w5 ⟨rfl, hb⟩; refine ⟨_, rfl, ?_⟩; have n0_ := zbaaq (below_step (by repeat (first | (with_reducible first | exact HB.out | apply zbaak | apply zbaai | apply zbaaj) | exact HB.out)) hb); clear HB; have HB := n0_; clear n0_; (try clear hb); (try clear hk); (try clear hi)))
  go_loopg [5, 6, 7] k (fun kq v5 v6 v7 w' => ∃ (zbabh : List (S24)) (zbabf : List (S36)) (zbaau : Int), v7 = .int .i64 zbaau ∧ Aside0 (stowagelaw13_ChainNewest.l0 kq l0 l1 zbabh zbabf zbaau = some r) ∧ Aside0 (kq ≤ k) ∧ Aside0 (Kd.V k24 24 w' w.heap.size (fun k_ => some k_ ≠ (v6 : Value).ownBlock) v5 zbabh) ∧ Aside0 (Kd.N k36 36 w' w.heap.size (fun _ => True) v6 zbabf) ∧ Aside0 (Below w.heap.size w w'))
  case atStart => exact ⟨(([] : List (S24))), (([] : List (S36))), (0), (by first | rfl | (simp; done) | (simp [*]; done)), H', ⟨Nat.le_refl _⟩, ⟨Kd.V_nil _ _ _ _ _⟩, ⟨by first | exact Kd.S_nil _ _ _ _ _ | exact Kd.N_nil _ _ _ _ _ | exact Kd.V_nil _ _ _ _ _ | exact Kd.Q_nil _ _ _ _ _ | exact Kd.R_nil _ _ _ _ _⟩, ⟨by repeat (first | (with_reducible first | exact HB.out | apply zbaak | apply zbaai | apply zbaaj) | exact HB.out)⟩⟩
  case round =>
   clear H'
   try clear c1
   try clear p2
   try clear c4
   try clear c5
   obtain ⟨zbabh, zbabf, zbaau, rfl, HA, HK1, HO_5, HO_6, HB⟩ := hrel
   cases gk with
   | zero => exact absurd HA.out (by simp [stowagelaw13_ChainNewest.l0])
   | succ k1 =>
    have H := HA.out
    clear HA
    simp only [stowagelaw13_ChainNewest.l0] at H
    have HC6 := zbaaq H
    clear H
    go_upto_region 6 with (fail)
    go_cut [25] (fun v25 wc => ∃ (kq : Nat) (zbabm : Bool), v25 = .bool zbabm ∧ Aside0 (stowagelaw13_ChainNewest.j1 kq l0 l1 zbabh zbabf zbaau zbabm = some r) ∧ Aside0 (kq ≤ k1) ∧ Aside0 (Kd.V k24 24 wc w.heap.size (fun k_ => some k_ ≠ (u6 : Value).ownBlock) u5 zbabh) ∧ Aside0 (Kd.N k36 36 wc w.heap.size (fun _ => True) u6 zbabf) ∧ Aside0 (Below w.heap.size w wc))
    case first =>
     have H := HC6.out
     clear HC6
     by_cases c7 : zbaau < (l0.length : Int)
     ·rw [if_pos c7] at H
      have c7b0 : decide (zbaau < (l0.length : Int)) = true := decide_eq_true c7
      clear c7
      (first | rw [c7b0] | (simp only [i64_w, i32_w]; rw [c7b0]) | skip)
      have H' := zbaaq H
      clear H
      go_wp2
      go_meet
      case rel => exact ⟨_, (decide (zbaau < 40)), (by first | rfl | (simp; done) | (simp [*]; done)), H', ⟨by have := HK1.out; first | omega | exact Nat.le_refl _⟩, ⟨by (with_reducible repeat (first | apply Kd.V_alloc | apply Kd.V_drewN | apply Kd.V_drew)); exact HO_5.out⟩, ⟨by (with_reducible repeat (first | apply Kd.N_alloc | apply Kd.N_drewN | apply Kd.N_drew)); exact HO_6.out⟩, ⟨by repeat (first | (with_reducible first | exact HB.out | apply zbaak | apply zbaai | apply zbaaj) | exact HB.out)⟩⟩
     ·rw [if_neg c7] at H
      have c7b0 : decide (zbaau < (l0.length : Int)) = false := decide_eq_false c7
      clear c7
      (first | rw [c7b0] | (simp only [i64_w, i32_w]; rw [c7b0]) | skip)
      have H' := zbaaq H
      clear H
      go_wp2
      go_meet
      case rel => exact ⟨_, (false), (by first | rfl | (simp; done) | (simp [*]; done)), H', ⟨by have := HK1.out; first | omega | exact Nat.le_refl _⟩, ⟨by (with_reducible repeat (first | apply Kd.V_alloc | apply Kd.V_drewN | apply Kd.V_drew)); exact HO_5.out⟩, ⟨by (with_reducible repeat (first | apply Kd.N_alloc | apply Kd.N_drewN | apply Kd.N_drew)); exact HO_6.out⟩, ⟨by repeat (first | (with_reducible first | exact HB.out | apply zbaak | apply zbaai | apply zbaaj) | exact HB.out)⟩⟩
    case rest =>
     clear HC6
     try clear c1
     try clear p2
     try clear c4
     try clear c5
     try clear c7
     try clear c7b0
     try clear p2
     obtain ⟨kq, zbabm, rfl, HA, HJ5, HO_5, HO_6, HB⟩ := hcut
     cases kq with
     | zero => exact absurd HA.out (by simp [stowagelaw13_ChainNewest.j1])
     | succ kj5 =>
      have H := HA.out
      clear HA
      simp only [stowagelaw13_ChainNewest.j1] at H
      by_cases c8 : zbabm = true
      ·as_aux_lemma =>
       subst c8
       have H1 : (if 0 ≤ zbaau then (if zbaau < (l0.length : Int) then ((chain_Put.f kj5 zbabh ((rd_T24 l0 zbaau).f0) ((rd_T24 l0 zbaau).f1) ((rd_T24 l0 zbaau).f2) ((rd_T24 l0 zbaau).f3) ((rd_T24 l0 zbaau).f4)).bind fun bt684 => (if bt684.2 = 0 then ((stowagelaw13_Ref.f kj5 ((rd_T24 l0 zbaau).f0) ((rd_T24 l0 zbaau).f1) ((rd_T24 l0 zbaau).f2) ((rd_T24 l0 zbaau).f3) ((rd_T24 l0 zbaau).f4)).bind fun bt689 => (if zbabf.length < 2199023255552 then (stowagelaw13_ChainNewest.j2 kj5 l0 l1 bt684.1 (zbabf ++ [(⟨bt689.1, bt689.2.1, bt689.2.2.1, bt689.2.2.2.1, bt689.2.2.2.2⟩ : S36)]) zbaau) else (none))) else (stowagelaw13_ChainNewest.j2 kj5 l0 l1 zbabh zbabf zbaau))) else (none)) else (none)) = some r := by rw [if_pos rfl] at H; exact H
       clear H
       have H := H1
       clear H1
       by_cases c9 : 0 ≤ zbaau
       ·as_aux_lemma =>
        rw [if_pos c9] at H
        have c9b0 : decide (0 ≤ zbaau) = true := decide_eq_true c9
        clear c9
        by_cases c10 : zbaau < (l0.length : Int)
        ·as_aux_lemma =>
         rw [if_pos c10] at H
         have c10b0 : decide (zbaau < (l0.length : Int)) = true := decide_eq_true c10
         clear c10
         replace H := Option.bind_eq_some_iff.mp H
         obtain ⟨⟨t684, t687⟩, A110, H⟩ := H
         replace H : (if t687 = 0 then ((stowagelaw13_Ref.f kj5 ((rd_T24 l0 zbaau).f0) ((rd_T24 l0 zbaau).f1) ((rd_T24 l0 zbaau).f2) ((rd_T24 l0 zbaau).f3) ((rd_T24 l0 zbaau).f4)).bind fun bt689 => (if zbabf.length < 2199023255552 then (stowagelaw13_ChainNewest.j2 kj5 l0 l1 t684 (zbabf ++ [(⟨bt689.1, bt689.2.1, bt689.2.2.1, bt689.2.2.2.1, bt689.2.2.2.2⟩ : S36)]) zbaau) else (none))) else (stowagelaw13_ChainNewest.j2 kj5 l0 l1 zbabh zbabf zbaau)) = some r := H
         have A11 := zbaaq A110
         clear A110
         have HC12 := zbaaq H
         clear H
         have p683 : 0 ≤ (zbaau : Int) := of_decide_eq_true (by first | (with_reducible assumption) | assumption)
         have q683 : zbaau < (l0.length : Int) := of_decide_eq_true (by first | (with_reducible assumption) | assumption)
         obtain ⟨ad683, A683_4, c683_4, e683, hx683_0, hx683_1, hx683_2, hx683_3, hx683_4, hl683_4, hi683_4⟩ := at_T24 HR0.out zbaau p683 q683
         cases e683
         replace hx683_0 := (HB.out.cell (zbaad w _ hx683_0)).trans hx683_0
         replace hx683_1 := (HB.out.cell (zbaad w _ hx683_1)).trans hx683_1
         replace hx683_2 := (HB.out.cell (zbaad w _ hx683_2)).trans hx683_2
         replace hx683_3 := (HB.out.cell (zbaad w _ hx683_3)).trans hx683_3
         replace hx683_4 := (HB.out.cell (zbaad w _ hx683_4)).trans hx683_4
         have HR683_4 := zbaaq hi683_4
         have HC683_4 := zbaaq hl683_4
         clear hi683_4 hl683_4
         replace p683 := eq_true p683
         replace q683 := eq_true q683
         obtain ⟨Ao13, co13, eo13⟩ := Kd.V_slice HO_5.out
         subst eo13
         go_upto_if 38 with (first | ((with_reducible refine gate_callee (f := 16) rfl ?_); refine goesL_ (some 34) rfl rfl Try.func16 (by kernel_rfl) rfl #[.slice Ao13 zbabh.length co13, .agg #[.int .i64 ((rd_T24 l0 zbaau).f0), .bool ((rd_T24 l0 zbaau).f1), .int .i64 ((rd_T24 l0 zbaau).f2), .string ((rd_T24 l0 zbaau).f3), .slice A683_4 ((rd_T24 l0 zbaau).f4).length c683_4]] rfl (by (try simp only [zbaan, zbaao, zbaap]); first | done | rfl) ?_; (with_reducible refine (chain_Put.calls kj5 _ _ zbabh ((rd_T24 l0 zbaau).f0) ((rd_T24 l0 zbaau).f1) ((rd_T24 l0 zbaau).f2) ((rd_T24 l0 zbaau).f3) _ _ ((rd_T24 l0 zbaau).f4) t684 t687 _ ?side1 ?side2 ?side3 ?side4 A11.out).mono ?_); (case side1 => repeat (first | exact (Kd.V_reads' HO_5.out).2.2 | (with_reducible refine Kd.C_alloc ?_ _) | (with_reducible refine Kd.C_drewN ?_ _) | (with_reducible refine Kd.C_drew ?_))); (case side2 => exact (Kd.V_reads' HO_5.out).2.1); (case side3 => repeat (first | exact (Kd.C_below HR683_4.out HB.out) | (with_reducible refine Kd.C_alloc ?_ _) | (with_reducible refine Kd.C_drewN ?_ _) | (with_reducible refine Kd.C_drew ?_))); (case side4 => exact HC683_4.out); rintro e w14 ⟨v685, rfl, ho0, hb⟩; refine ⟨_, rfl, ?_⟩; have n0_ := zbaaq (Kd.V_elder' (by (with_reducible repeat (first | apply Kd.V_alloc | apply Kd.V_drewN | apply Kd.V_drew)); exact HO_5.out) (by first | exact Kd.N_base ho0 | exact Kd.N_base (Kd.S_N ho0)) hb); have n1_ := zbaaq (Kd.N_elder' (by (with_reducible repeat (first | apply Kd.N_alloc | apply Kd.N_drewN | apply Kd.N_drew)); exact HO_6.out) (by first | exact Kd.N_base ho0 | exact Kd.N_base (Kd.S_N ho0)) hb); have n2_ := zbaaq (Kd.N_lower (Kd.N_mono (ok' := fun k_ => some k_ ≠ (u6 : Value).ownBlock) ho0 (fun k_ hk_ => (Kd.fresh' (Kd.N_lt (by (with_reducible repeat (first | apply Kd.N_alloc | apply Kd.N_drewN | apply Kd.N_drew)); exact HO_6.out)) k_ hk_))) (below_size (by repeat (first | (with_reducible first | exact HB.out | apply zbaak | apply zbaai | apply zbaaj) | exact HB.out)))); have n3_ := zbaaq (below_step (by repeat (first | (with_reducible first | exact HB.out | apply zbaak | apply zbaai | apply zbaaj) | exact HB.out)) hb); clear HO_5; clear HO_6; clear HB; have HO_5 := n0_; have HO_6 := n1_; have HO686 := n2_; have HB := n3_; clear n0_ n1_ n2_ n3_; (try clear hb); (try clear hk); (try clear hi); (try clear ho0)))
         (try simp only [Act.put, zbaaa, zbaab, zbaac])
         go_cut [5, 6] (fun v5 v6 wc => ∃ (kq : Nat) (zbabg : List (S24)) (zbaay : List (S36)), Aside0 (stowagelaw13_ChainNewest.j2 kq l0 l1 zbabg zbaay zbaau = some r) ∧ Aside0 (kq ≤ kj5) ∧ Aside0 (Kd.V k24 24 wc w.heap.size (fun k_ => some k_ ≠ (v6 : Value).ownBlock) v5 zbabg) ∧ Aside0 (Kd.N k36 36 wc w.heap.size (fun _ => True) v6 zbaay) ∧ Aside0 (Below w.heap.size w wc))
         case first =>
          have H := HC12.out
          clear HC12
          by_cases c15 : t687 = 0
          ·rw [if_pos c15] at H
           have c15b0 : (t687 == 0) = true := beq_iff_eq.mpr c15
           have c15b1 : (t687 != 0) = false := bne_eq_false_iff_eq.mpr c15
           clear c15
           (first | rw [c15b0] | (simp only [i64_w, i32_w]; rw [c15b0]) | skip)
           replace H := Option.bind_eq_some_iff.mp H
           obtain ⟨⟨t689, t690, t691, t692, t693⟩, A160, H⟩ := H
           replace H : (if zbabf.length < 2199023255552 then (stowagelaw13_ChainNewest.j2 kj5 l0 l1 t684 (zbabf ++ [(⟨t689, t690, t691, t692, t693⟩ : S36)]) zbaau) else (none)) = some r := H
           have A16 := zbaaq A160
           clear A160
           by_cases c17 : zbabf.length < 2199023255552
           ·rw [if_pos c17] at H
            have LMc17 := zbaaq c17
            clear c17
            obtain ⟨y696, hy696⟩ : ∃ y_ : List (S36), y_ = (zbabf ++ [(⟨t689, t690, t691, t692, t693⟩ : S36)]) := ⟨_, rfl⟩
            replace H : (stowagelaw13_ChainNewest.j2 kj5 l0 l1 t684 y696 zbaau) = some r := by first | (rw [hy696]; with_reducible exact H) | (have H2_ := (Option.bind_some _ _).symm.trans H; rw [hy696]; with_reducible exact H2_) | (have H2_ := (Option.bind_some _ _).symm.trans H; with_reducible exact H2_) | with_reducible exact H | (rw [hy696]; exact H) | exact H
            have Ny696 := zbaaq hy696
            clear hy696
            have H' := zbaaq H
            clear H
            have p688 : 0 ≤ (zbaau : Int) := of_decide_eq_true (by first | (with_reducible assumption) | assumption)
            have q688 : zbaau < (l0.length : Int) := of_decide_eq_true (by first | (with_reducible assumption) | assumption)
            obtain ⟨ad688, A688_4, c688_4, e688, hx688_0, hx688_1, hx688_2, hx688_3, hx688_4, hl688_4, hi688_4⟩ := at_T24 HR0.out zbaau p688 q688
            obtain rfl : ad683 = ad688 := (by injection e688)
            replace hx688_0 := (HB.out.cell (zbaad w _ hx688_0)).trans hx688_0
            replace hx688_1 := (HB.out.cell (zbaad w _ hx688_1)).trans hx688_1
            replace hx688_2 := (HB.out.cell (zbaad w _ hx688_2)).trans hx688_2
            replace hx688_3 := (HB.out.cell (zbaad w _ hx688_3)).trans hx688_3
            replace hx688_4 := (HB.out.cell (zbaad w _ hx688_4)).trans hx688_4
            have HR688_4 := zbaaq hi688_4
            have HC688_4 := zbaaq hl688_4
            clear hi688_4 hl688_4
            replace p688 := eq_true p688
            replace q688 := eq_true q688
            go_wp2_with (first | ((with_reducible refine gate_callee (f := 15) rfl ?_); refine goesL_ (some 45) rfl rfl Try.func15 (by kernel_rfl) rfl #[.agg #[.int .i64 ((rd_T24 l0 zbaau).f0), .bool ((rd_T24 l0 zbaau).f1), .int .i64 ((rd_T24 l0 zbaau).f2), .string ((rd_T24 l0 zbaau).f3), .slice A688_4 ((rd_T24 l0 zbaau).f4).length c688_4]] rfl (by (try simp only [zbaan, zbaao, zbaap]); first | done | rfl) ?_; (with_reducible refine (stowagelaw13_Ref.calls kj5 ((rd_T24 l0 zbaau).f0) ((rd_T24 l0 zbaau).f1) ((rd_T24 l0 zbaau).f2) ((rd_T24 l0 zbaau).f3) _ _ ((rd_T24 l0 zbaau).f4) t689 t690 t691 t692 t693 _ ?side1 ?side2 A16.out).mono ?_); (case side1 => repeat (first | exact (Kd.C_below HR688_4.out HB.out) | (with_reducible refine Kd.C_alloc ?_ _) | (with_reducible refine Kd.C_drewN ?_ _) | (with_reducible refine Kd.C_drew ?_))); (case side2 => exact HC688_4.out); rintro e w18 ⟨v694, rfl, ho0, hb⟩; refine ⟨_, rfl, ?_⟩; have n0_ := zbaaq (Kd.V_elder' (by (with_reducible repeat (first | apply Kd.V_alloc | apply Kd.V_drewN | apply Kd.V_drew)); exact HO_5.out) (Kd.R_base ho0) hb); have n1_ := zbaaq (Kd.N_elder' (by (with_reducible repeat (first | apply Kd.N_alloc | apply Kd.N_drewN | apply Kd.N_drew)); exact HO_6.out) (Kd.R_base ho0) hb); have n2_ := zbaaq (Kd.N_elder' (by (with_reducible repeat (first | apply Kd.N_alloc | apply Kd.N_drewN | apply Kd.N_drew)); exact HO686.out) (Kd.R_base ho0) hb); have n3_ := zbaaq (Kd.R_lower ho0 (below_size (by repeat (first | (with_reducible first | exact HB.out | apply zbaak | apply zbaai | apply zbaaj) | exact HB.out)))); have n4_ := zbaaq (below_step (by repeat (first | (with_reducible first | exact HB.out | apply zbaak | apply zbaai | apply zbaaj) | exact HB.out)) hb); clear HO_5; clear HO_6; clear HO686; clear HB; have HO_5 := n0_; have HO_6 := n1_; have HO686 := n2_; have HO695 := n3_; have HB := n4_; clear n0_ n1_ n2_ n3_ n4_; (try clear hb); (try clear hk); (try clear hi); (try clear ho0); obtain ⟨Ao20, co20, eo20⟩ := Kd.R_slice HO695.out; subst eo20) | ((with_reducible refine gate_builtin (b := .append) (xs := #[.tmp 40, .tmp 46]) rfl ?_); (try (refine gate_guard (by rfl) ?_; dsimp only)); at_builtin; refine Kd.N_append k36 (w0 := w) w.heap.size rfl (.tmp 40) (.tmp 46) 42 36 (.agg #[(.int .i64 0), (.bool false), (.int .i64 0), (.string ⟨#[]⟩), (.slice none 0 0)]) 64 rfl Try.underlying42 info36 rfl (by decide) (by omega) u6 zbabf (⟨t689, t690, t691, t692, t693⟩ : S36) [.int .i64 t689, .bool t690, .int .i64 t691, .string t692, .slice Ao20 t693.length co20] (fun k_ => some k_ ≠ (v685 : Value).ownBlock) (fun k_ => ((fun k_ => some k_ ≠ (v685 : Value).ownBlock)) k_ ∧ some k_ ≠ (u6 : Value).ownBlock) rfl rfl ?aP (fun _ hk => hk) ?aF ?aO ?aB ?aS ?aL ?_; (case aP => exact (k36_mkF _ _ (⟨t689, t690, t691, t692, t693⟩ : S36) (Kd.R_reads' (Kd.R_mono (ok' := (fun k_ => ((fun k_ => some k_ ≠ (v685 : Value).ownBlock)) k_ ∧ some k_ ≠ (u6 : Value).ownBlock)) (Kd.R_apart' (Kd.R_apart' (HO695.out) (Kd.N_typed HO686.out) (by decide)) (Kd.N_typed HO_6.out) (by decide)) (fun k_ hk => ⟨hk.1.2, hk.2⟩))).2.1 (Kd.R_F (Kd.R_mono (ok' := (fun k_ => ((fun k_ => some k_ ≠ (v685 : Value).ownBlock)) k_ ∧ some k_ ≠ (u6 : Value).ownBlock)) (Kd.R_apart' (Kd.R_apart' (HO695.out) (Kd.N_typed HO686.out) (by decide)) (Kd.N_typed HO_6.out) (by decide)) (fun k_ hk => ⟨hk.1.2, hk.2⟩))))); (case aB => exact (by repeat (first | (with_reducible first | exact HB.out | apply zbaak | apply zbaai | apply zbaaj) | exact HB.out))); (case aF => exact (fun k_ hk => Kd.fresh' (Kd.N_lt (by (with_reducible repeat (first | apply Kd.N_alloc | apply Kd.N_drewN | apply Kd.N_drew)); exact HO686.out)) k_ hk)); (case aO => exact (by (with_reducible repeat (first | apply Kd.N_alloc | apply Kd.N_drewN | apply Kd.N_drew)); exact Kd.N_mono HO_6.out (fun _ hk => hk.1.2))); (case aS => exact (below_size (by repeat (first | (with_reducible first | exact HB.out | apply zbaak | apply zbaai | apply zbaaj) | exact HB.out)))); (case aL => have := LMc17.out; omega); intro v697 w19 ho hb hg hat; rw [← Ny696.out] at ho; have n0_ := zbaaq (Kd.V_afterv (ok := (fun k_ => some k_ ≠ (v685 : Value).ownBlock ∧ some k_ ≠ (.slice Ao20 t693.length co20 : Value).ownBlock)) (by (with_reducible repeat (first | apply Kd.V_alloc | apply Kd.V_drewN | apply Kd.V_drew)); exact Kd.V_mono HO_5.out (fun _ hk => ⟨⟨hk.1.2, hk.2⟩, hk.1.1⟩)) hg hat); have n1_ := zbaaq (Kd.N_afterv (ok := (fun k_ => some k_ ≠ (.slice Ao20 t693.length co20 : Value).ownBlock)) (by (with_reducible repeat (first | apply Kd.N_alloc | apply Kd.N_drewN | apply Kd.N_drew)); exact Kd.N_mono HO686.out (fun _ hk => ⟨hk.2, hk.1⟩)) hg hat); have n2_ := zbaaq (hb); have n3_ := zbaaq (ho); clear HO_5; clear HO686; clear HB; clear HO_6; clear HO695; have HO_5 := n0_; have HO686 := n1_; have HB := n2_; have HO698 := n3_; clear n0_ n1_ n2_ n3_; clear ho hb hg hat))
            go_meet
            case rel => exact ⟨_, (t684), (y696), H', ⟨by have := HK1.out; have := HJ5.out; first | omega | exact Nat.le_refl _⟩, ⟨Kd.N_V (by (with_reducible repeat (first | apply Kd.N_alloc | apply Kd.N_drewN | apply Kd.N_drew)); exact Kd.N_mono HO686.out (fun _ hk => hk.2))⟩, ⟨by (with_reducible repeat (first | apply Kd.N_alloc | apply Kd.N_drewN | apply Kd.N_drew)); exact Kd.N_mono HO698.out (fun _ hk => trivial)⟩, ⟨by repeat (first | (with_reducible first | exact HB.out | apply zbaak | apply zbaai | apply zbaaj) | exact HB.out)⟩⟩
           ·rw [if_neg c17] at H
            exact absurd H (by simp)
          ·rw [if_neg c15] at H
           have c15b0 : (t687 == 0) = false := beq_eq_false_iff_ne.mpr c15
           have c15b1 : (t687 != 0) = true := bne_iff_ne.mpr c15
           (first | rw [c15b0] | (simp only [i64_w, i32_w]; rw [c15b0]) | skip)
           have H' := zbaaq H
           clear H
           go_wp2
           go_meet
           case rel => exact ⟨_, (zbabh), (zbabf), H', ⟨by have := HK1.out; have := HJ5.out; first | omega | exact Nat.le_refl _⟩, ⟨by (with_reducible repeat (first | apply Kd.V_alloc | apply Kd.V_drewN | apply Kd.V_drew)); exact Kd.V_mono HO_5.out (fun _ hk => hk.1)⟩, ⟨by (with_reducible repeat (first | apply Kd.N_alloc | apply Kd.N_drewN | apply Kd.N_drew)); exact Kd.N_mono HO_6.out (fun _ hk => trivial)⟩, ⟨by repeat (first | (with_reducible first | exact HB.out | apply zbaak | apply zbaai | apply zbaaj) | exact HB.out)⟩⟩
         case rest =>
          clear HC12
          try clear c1
          try clear p2
          try clear c4
          try clear c5
          try clear c6
          try clear p6
          try clear q6
          try clear hx6
          try clear c7
          try clear c7b0
          try clear c8
          try clear c9
          try clear c9b0
          try clear c10
          try clear c10b0
          try clear c12
          try clear c15
          try clear c15b0
          try clear c15b1
          try clear c16
          try clear c17
          try clear hx683_0
          try clear hx683_1
          try clear hx683_2
          try clear hx683_3
          try clear hx683_4
          try clear hx688_0
          try clear hx688_1
          try clear hx688_2
          try clear hx688_3
          try clear hx688_4
          try clear p2
          try clear p683
          try clear p688
          try clear q683
          try clear q688
          obtain ⟨kq, zbabg, zbaay, HA, HJ11, HO_5, HO_6, HB⟩ := hcut
          cases kq with
          | zero => exact absurd HA.out (by simp [stowagelaw13_ChainNewest.j2])
          | succ kj11 =>
           have H := HA.out
           clear HA
           simp only [stowagelaw13_ChainNewest.j2] at H
           have HC21 := zbaaq H
           clear H
           go_upto_region 12 with (fail)
           go_cut [72] (fun v72 wc => ∃ (kq : Nat) (zbabk : Bool), v72 = .bool zbabk ∧ Aside0 (stowagelaw13_ChainNewest.j3 kq l0 l1 zbabg zbaay zbaau zbabk = some r) ∧ Aside0 (kq ≤ kj11) ∧ Aside0 (Kd.V k24 24 wc w.heap.size (fun k_ => some k_ ≠ (u6 : Value).ownBlock) u5 zbabg) ∧ Aside0 (Kd.N k36 36 wc w.heap.size (fun _ => True) u6 zbaay) ∧ Aside0 (Below w.heap.size w wc))
           case first =>
            have H := HC21.out
            clear HC21
            by_cases c22 : zbaau < (l1.length : Int)
            ·as_aux_lemma =>
             rw [if_pos c22] at H
             have c22b0 : decide (zbaau < (l1.length : Int)) = true := decide_eq_true c22
             clear c22
             (first | rw [c22b0] | (simp only [i64_w, i32_w]; rw [c22b0]) | skip)
             by_cases c23 : (zbaay.length : Int) > 0
             ·rw [if_pos c23] at H
              have c23b0 : decide (0 < (zbaay.length : Int)) = true := decide_eq_true c23
              have c23b1 : decide (0 < zbaay.length) = true := decide_eq_true (by omega)
              clear c23
              by_cases c24 : 0 ≤ zbaau
              ·rw [if_pos c24] at H
               have c24b0 : decide (0 ≤ zbaau) = true := decide_eq_true c24
               clear c24
               by_cases c25 : (rd l1 zbaau) ≥ 0
               ·rw [if_pos c25] at H
                have c25b0 : decide (0 ≤ (rd l1 zbaau)) = true := decide_eq_true c25
                clear c25
                have H' := zbaaq H
                clear H
                obtain ⟨Ao26, co26, eo26⟩ := Kd.N_slice HO_6.out
                subst eo26
                have p699 : 0 ≤ (zbaau : Int) := of_decide_eq_true (by first | (with_reducible assumption) | assumption)
                have q699 : zbaau < (l1.length : Int) := of_decide_eq_true (by first | (with_reducible assumption) | assumption)
                obtain ⟨ad699, e699, hx699_0⟩ := Kd.at_int HR1.out zbaau p699 q699
                cases e699
                replace hx699_0 := (HB.out.cell (zbaad w _ hx699_0)).trans hx699_0
                replace p699 := eq_true p699
                replace q699 := eq_true q699
                have p700 : 0 ≤ (zbaau : Int) := of_decide_eq_true (by first | (with_reducible assumption) | assumption)
                have q700 : zbaau < (l1.length : Int) := of_decide_eq_true (by first | (with_reducible assumption) | assumption)
                obtain ⟨ad700, e700, hx700_0⟩ := Kd.at_int HR1.out zbaau p700 q700
                obtain rfl : ad699 = ad700 := (by injection e700)
                replace hx700_0 := (HB.out.cell (zbaad w _ hx700_0)).trans hx700_0
                replace p700 := eq_true p700
                replace q700 := eq_true q700
                go_wp2
                go_meet
                case rel => exact ⟨_, (decide ((rd l1 zbaau) < (zbaay.length : Int))), (by first | rfl | (simp; done) | (simp [*]; done)), H', ⟨by have := HK1.out; have := HJ5.out; have := HJ11.out; first | omega | exact Nat.le_refl _⟩, ⟨by (with_reducible repeat (first | apply Kd.V_alloc | apply Kd.V_drewN | apply Kd.V_drew)); exact HO_5.out⟩, ⟨by (with_reducible repeat (first | apply Kd.N_alloc | apply Kd.N_drewN | apply Kd.N_drew)); exact HO_6.out⟩, ⟨by repeat (first | (with_reducible first | exact HB.out | apply zbaak | apply zbaai | apply zbaaj) | exact HB.out)⟩⟩
               ·rw [if_neg c25] at H
                have c25b0 : decide (0 ≤ (rd l1 zbaau)) = false := decide_eq_false c25
                clear c25
                have H' := zbaaq H
                clear H
                obtain ⟨Ao27, co27, eo27⟩ := Kd.N_slice HO_6.out
                subst eo27
                have p699 : 0 ≤ (zbaau : Int) := of_decide_eq_true (by first | (with_reducible assumption) | assumption)
                have q699 : zbaau < (l1.length : Int) := of_decide_eq_true (by first | (with_reducible assumption) | assumption)
                obtain ⟨ad699, e699, hx699_0⟩ := Kd.at_int HR1.out zbaau p699 q699
                cases e699
                replace hx699_0 := (HB.out.cell (zbaad w _ hx699_0)).trans hx699_0
                replace p699 := eq_true p699
                replace q699 := eq_true q699
                go_wp2
                go_meet
                case rel => exact ⟨_, (false), (by first | rfl | (simp; done) | (simp [*]; done)), H', ⟨by have := HK1.out; have := HJ5.out; have := HJ11.out; first | omega | exact Nat.le_refl _⟩, ⟨by (with_reducible repeat (first | apply Kd.V_alloc | apply Kd.V_drewN | apply Kd.V_drew)); exact HO_5.out⟩, ⟨by (with_reducible repeat (first | apply Kd.N_alloc | apply Kd.N_drewN | apply Kd.N_drew)); exact HO_6.out⟩, ⟨by repeat (first | (with_reducible first | exact HB.out | apply zbaak | apply zbaai | apply zbaaj) | exact HB.out)⟩⟩
              ·rw [if_neg c24] at H
               exact absurd H (by simp)
             ·rw [if_neg c23] at H
              have c23b0 : decide (0 < (zbaay.length : Int)) = false := decide_eq_false c23
              have c23b1 : decide (0 < zbaay.length) = false := decide_eq_false (by omega)
              clear c23
              have H' := zbaaq H
              clear H
              obtain ⟨Ao28, co28, eo28⟩ := Kd.N_slice HO_6.out
              subst eo28
              go_wp2
              go_meet
              case rel => exact ⟨_, (false), (by first | rfl | (simp; done) | (simp [*]; done)), H', ⟨by have := HK1.out; have := HJ5.out; have := HJ11.out; first | omega | exact Nat.le_refl _⟩, ⟨by (with_reducible repeat (first | apply Kd.V_alloc | apply Kd.V_drewN | apply Kd.V_drew)); exact HO_5.out⟩, ⟨by (with_reducible repeat (first | apply Kd.N_alloc | apply Kd.N_drewN | apply Kd.N_drew)); exact HO_6.out⟩, ⟨by repeat (first | (with_reducible first | exact HB.out | apply zbaak | apply zbaai | apply zbaaj) | exact HB.out)⟩⟩
            ·rw [if_neg c22] at H
             have c22b0 : decide (zbaau < (l1.length : Int)) = false := decide_eq_false c22
             clear c22
             (first | rw [c22b0] | (simp only [i64_w, i32_w]; rw [c22b0]) | skip)
             have H' := zbaaq H
             clear H
             go_wp2
             go_meet
             case rel => exact ⟨_, (false), (by first | rfl | (simp; done) | (simp [*]; done)), H', ⟨by have := HK1.out; have := HJ5.out; have := HJ11.out; first | omega | exact Nat.le_refl _⟩, ⟨by (with_reducible repeat (first | apply Kd.V_alloc | apply Kd.V_drewN | apply Kd.V_drew)); exact HO_5.out⟩, ⟨by (with_reducible repeat (first | apply Kd.N_alloc | apply Kd.N_drewN | apply Kd.N_drew)); exact HO_6.out⟩, ⟨by repeat (first | (with_reducible first | exact HB.out | apply zbaak | apply zbaai | apply zbaaj) | exact HB.out)⟩⟩
           case rest =>
            clear HC21
            try clear c1
            try clear c2
            try clear p2
            try clear c4
            try clear c5
            try clear c6
            try clear p6
            try clear q6
            try clear hx6
            try clear c7
            try clear c7b0
            try clear p7
            try clear q7
            try clear hx7
            try clear c8
            try clear c9
            try clear c9b0
            try clear c10
            try clear c10b0
            try clear c12
            try clear c15
            try clear c15b0
            try clear c15b1
            try clear c16
            try clear c17
            try clear c22
            try clear c22b0
            try clear c23
            try clear c23b0
            try clear c23b1
            try clear c24
            try clear c24b0
            try clear c25
            try clear c25b0
            try clear hx683_0
            try clear hx683_1
            try clear hx683_2
            try clear hx683_3
            try clear hx683_4
            try clear hx688_0
            try clear hx688_1
            try clear hx688_2
            try clear hx688_3
            try clear hx688_4
            try clear hx699_0
            try clear hx700_0
            try clear p2
            try clear p6
            try clear p683
            try clear p688
            try clear p699
            try clear p700
            try clear q6
            try clear q683
            try clear q688
            try clear q699
            try clear q700
            obtain ⟨kq, zbabk, rfl, HA, HJ20, HO_5, HO_6, HB⟩ := hcut
            cases kq with
            | zero => exact absurd HA.out (by simp [stowagelaw13_ChainNewest.j3])
            | succ kj20 =>
             have H := HA.out
             clear HA
             simp only [stowagelaw13_ChainNewest.j3] at H
             have HC29 := zbaaq H
             clear H
             go_upto_if 72 with (fail)
             go_cut [5, 6] (fun v5 v6 wc => ∃ (kq : Nat) (zbabb : List (S24)) (zbaas : List (S36)), Aside0 (stowagelaw13_ChainNewest.j4 kq l0 l1 zbabb zbaas zbaau = some r) ∧ Aside0 (kq ≤ kj20) ∧ Aside0 (Kd.V k24 24 wc w.heap.size (fun k_ => some k_ ≠ (v6 : Value).ownBlock) v5 zbabb) ∧ Aside0 (Kd.N k36 36 wc w.heap.size (fun _ => True) v6 zbaas) ∧ Aside0 (Below w.heap.size w wc))
             case first =>
              have H := HC29.out
              clear HC29
              by_cases c30 : zbabk = true
              ·as_aux_lemma =>
               subst c30
               have H1 : (if 0 ≤ zbaau then (if zbaau < (l1.length : Int) then (if 0 ≤ (rd l1 zbaau) then (if (rd l1 zbaau) < (zbaay.length : Int) then ((chain_Drop.f kj20 zbabg ((rd_T36 zbaay (rd l1 zbaau)).f0)).bind fun bt703 => (if bt703.2 = 0 then ((some (([] : List (S36)) : List (S36))).bind fun y707 => (if (rd l1 zbaau) ≤ (zbaay.length : Int) then ((some (zbaay.take ((rd l1 zbaau) : Int).toNat : List (S36))).bind fun y711 => (if y707.length + y711.length < 2199023255552 then ((some (y707 ++ y711 : List (S36))).bind fun y716 => (if 0 ≤ (wrap64 ((rd l1 zbaau) + 1)) then (if (wrap64 ((rd l1 zbaau) + 1)) ≤ (zbaay.length : Int) then ((some (zbaay.drop ((wrap64 ((rd l1 zbaau) + 1)) : Int).toNat : List (S36))).bind fun y720 => (if y716.length + y720.length < 2199023255552 then (stowagelaw13_ChainNewest.j4 kj20 l0 l1 bt703.1 (y716 ++ y720) zbaau) else (none))) else (none)) else (none))) else (none))) else (none))) else (some false))) else (none)) else (none)) else (none)) else (none)) = some r := by rw [if_pos rfl] at H; exact H
               clear H
               have H := H1
               clear H1
               by_cases c31 : 0 ≤ zbaau
               ·as_aux_lemma =>
                rw [if_pos c31] at H
                have c31b0 : decide (0 ≤ zbaau) = true := decide_eq_true c31
                clear c31
                (first | rw [c31b0] | (simp only [i64_w, i32_w]; rw [c31b0]) | skip)
                by_cases c32 : zbaau < (l1.length : Int)
                ·as_aux_lemma =>
                 rw [if_pos c32] at H
                 have c32b0 : decide (zbaau < (l1.length : Int)) = true := decide_eq_true c32
                 clear c32
                 by_cases c33 : 0 ≤ (rd l1 zbaau)
                 ·as_aux_lemma =>
                  rw [if_pos c33] at H
                  have c33b0 : decide (0 ≤ (rd l1 zbaau)) = true := decide_eq_true c33
                  clear c33
                  by_cases c34 : (rd l1 zbaau) < (zbaay.length : Int)
                  ·as_aux_lemma =>
                   rw [if_pos c34] at H
                   have c34b0 : decide ((rd l1 zbaau) < (zbaay.length : Int)) = true := decide_eq_true c34
                   clear c34
                   replace H := Option.bind_eq_some_iff.mp H
                   obtain ⟨⟨t703, t706⟩, A350, H⟩ := H
                   replace H : (if t706 = 0 then ((some (([] : List (S36)) : List (S36))).bind fun y707 => (if (rd l1 zbaau) ≤ (zbaay.length : Int) then ((some (zbaay.take ((rd l1 zbaau) : Int).toNat : List (S36))).bind fun y711 => (if y707.length + y711.length < 2199023255552 then ((some (y707 ++ y711 : List (S36))).bind fun y716 => (if 0 ≤ (wrap64 ((rd l1 zbaau) + 1)) then (if (wrap64 ((rd l1 zbaau) + 1)) ≤ (zbaay.length : Int) then ((some (zbaay.drop ((wrap64 ((rd l1 zbaau) + 1)) : Int).toNat : List (S36))).bind fun y720 => (if y716.length + y720.length < 2199023255552 then (stowagelaw13_ChainNewest.j4 kj20 l0 l1 t703 (y716 ++ y720) zbaau) else (none))) else (none)) else (none))) else (none))) else (none))) else (some false)) = some r := H
                   have A35 := zbaaq A350
                   clear A350
                   by_cases c36 : t706 = 0
                   ·as_aux_lemma =>
                    rw [if_pos c36] at H
                    have c36b0 : (t706 == 0) = true := beq_iff_eq.mpr c36
                    have c36b1 : (t706 != 0) = false := bne_eq_false_iff_eq.mpr c36
                    clear c36
                    obtain ⟨y707, hy707⟩ : ∃ y_ : List (S36), y_ = (([] : List (S36))) := ⟨_, rfl⟩
                    replace H : (if (rd l1 zbaau) ≤ (zbaay.length : Int) then ((some (zbaay.take ((rd l1 zbaau) : Int).toNat : List (S36))).bind fun y711 => (if y707.length + y711.length < 2199023255552 then ((some (y707 ++ y711 : List (S36))).bind fun y716 => (if 0 ≤ (wrap64 ((rd l1 zbaau) + 1)) then (if (wrap64 ((rd l1 zbaau) + 1)) ≤ (zbaay.length : Int) then ((some (zbaay.drop ((wrap64 ((rd l1 zbaau) + 1)) : Int).toNat : List (S36))).bind fun y720 => (if y716.length + y720.length < 2199023255552 then (stowagelaw13_ChainNewest.j4 kj20 l0 l1 t703 (y716 ++ y720) zbaau) else (none))) else (none)) else (none))) else (none))) else (none)) = some r := by first | (rw [hy707]; with_reducible exact H) | (have H2_ := (Option.bind_some _ _).symm.trans H; rw [hy707]; with_reducible exact H2_) | (have H2_ := (Option.bind_some _ _).symm.trans H; with_reducible exact H2_) | with_reducible exact H | (rw [hy707]; exact H) | exact H
                    have Ny707 := zbaaq hy707
                    clear hy707
                    have c37b0 := eq_true (of_decide_eq_true (by first | (with_reducible assumption) | assumption) : 0 ≤ (rd l1 zbaau))
                    by_cases c38 : (rd l1 zbaau) ≤ (zbaay.length : Int)
                    ·as_aux_lemma =>
                     rw [if_pos c38] at H
                     have c38b0 := eq_true c38
                     have c38b1 : decide ((rd l1 zbaau) ≤ (zbaay.length : Int)) = true := decide_eq_true c38
                     clear c38
                     obtain ⟨y711, hy711⟩ : ∃ y_ : List (S36), y_ = (zbaay.take ((rd l1 zbaau) : Int).toNat) := ⟨_, rfl⟩
                     replace H : (if y707.length + y711.length < 2199023255552 then ((some (y707 ++ y711 : List (S36))).bind fun y716 => (if 0 ≤ (wrap64 ((rd l1 zbaau) + 1)) then (if (wrap64 ((rd l1 zbaau) + 1)) ≤ (zbaay.length : Int) then ((some (zbaay.drop ((wrap64 ((rd l1 zbaau) + 1)) : Int).toNat : List (S36))).bind fun y720 => (if y716.length + y720.length < 2199023255552 then (stowagelaw13_ChainNewest.j4 kj20 l0 l1 t703 (y716 ++ y720) zbaau) else (none))) else (none)) else (none))) else (none)) = some r := by first | (rw [hy711]; with_reducible exact H) | (have H2_ := (Option.bind_some _ _).symm.trans H; rw [hy711]; with_reducible exact H2_) | (have H2_ := (Option.bind_some _ _).symm.trans H; with_reducible exact H2_) | with_reducible exact H | (rw [hy711]; exact H) | exact H
                     have Ny711 := zbaaq hy711
                     clear hy711
                     by_cases c39 : y707.length + y711.length < 2199023255552
                     ·as_aux_lemma =>
                      rw [if_pos c39] at H
                      have LMc39 := zbaaq c39
                      clear c39
                      obtain ⟨y716, hy716⟩ : ∃ y_ : List (S36), y_ = (y707 ++ y711) := ⟨_, rfl⟩
                      replace H : (if 0 ≤ (wrap64 ((rd l1 zbaau) + 1)) then (if (wrap64 ((rd l1 zbaau) + 1)) ≤ (zbaay.length : Int) then ((some (zbaay.drop ((wrap64 ((rd l1 zbaau) + 1)) : Int).toNat : List (S36))).bind fun y720 => (if y716.length + y720.length < 2199023255552 then (stowagelaw13_ChainNewest.j4 kj20 l0 l1 t703 (y716 ++ y720) zbaau) else (none))) else (none)) else (none)) = some r := by first | (rw [hy716]; with_reducible exact H) | (have H2_ := (Option.bind_some _ _).symm.trans H; rw [hy716]; with_reducible exact H2_) | (have H2_ := (Option.bind_some _ _).symm.trans H; with_reducible exact H2_) | with_reducible exact H | (rw [hy716]; exact H) | exact H
                      have Ny716 := zbaaq hy716
                      clear hy716
                      obtain ⟨ji40, hji40⟩ : ∃ j_ : Int, (wrap64 ((rd l1 zbaau) + 1)) = j_ := ⟨_, rfl⟩
                      replace H : (if 0 ≤ (ji40) then (if (ji40) ≤ (zbaay.length : Int) then ((some (zbaay.drop ((ji40) : Int).toNat : List (S36))).bind fun y720 => (if y716.length + y720.length < 2199023255552 then (stowagelaw13_ChainNewest.j4 kj20 l0 l1 t703 (y716 ++ y720) zbaau) else (none))) else (none)) else (none)) = some r := by first | (rw [hji40] at H; exact H) | (simp only [hji40] at H ⊢; exact H)
                      (try rw [hji40] at A35)
                      have hji40w : (IntKind.i64.wrap ((rd l1 zbaau) + 1)) = ji40 := (i64_w _).trans hji40
                      by_cases c41 : 0 ≤ (ji40)
                      ·as_aux_lemma =>
                       rw [if_pos c41] at H
                       have c41b0 := eq_true c41
                       have c41b1 : decide (0 ≤ (ji40)) = true := decide_eq_true c41
                       clear c41
                       by_cases c42 : (ji40) ≤ (zbaay.length : Int)
                       ·as_aux_lemma =>
                        rw [if_pos c42] at H
                        have c42b0 := eq_true c42
                        have c42b1 : decide ((ji40) ≤ (zbaay.length : Int)) = true := decide_eq_true c42
                        clear c42
                        obtain ⟨y720, hy720⟩ : ∃ y_ : List (S36), y_ = (zbaay.drop ((ji40) : Int).toNat) := ⟨_, rfl⟩
                        replace H : (if y716.length + y720.length < 2199023255552 then (stowagelaw13_ChainNewest.j4 kj20 l0 l1 t703 (y716 ++ y720) zbaau) else (none)) = some r := by first | (rw [hy720]; with_reducible exact H) | (have H2_ := (Option.bind_some _ _).symm.trans H; rw [hy720]; with_reducible exact H2_) | (have H2_ := (Option.bind_some _ _).symm.trans H; with_reducible exact H2_) | with_reducible exact H | (rw [hy720]; exact H) | exact H
                        have Ny720 := zbaaq hy720
                        clear hy720
                        by_cases c43 : y716.length + y720.length < 2199023255552
                        ·as_aux_lemma =>
                         rw [if_pos c43] at H
                         have LMc43 := zbaaq c43
                         clear c43
                         obtain ⟨y725, hy725⟩ : ∃ y_ : List (S36), y_ = (y716 ++ y720) := ⟨_, rfl⟩
                         replace H : (stowagelaw13_ChainNewest.j4 kj20 l0 l1 t703 y725 zbaau) = some r := by first | (rw [hy725]; with_reducible exact H) | (have H2_ := (Option.bind_some _ _).symm.trans H; rw [hy725]; with_reducible exact H2_) | (have H2_ := (Option.bind_some _ _).symm.trans H; with_reducible exact H2_) | with_reducible exact H | (rw [hy725]; exact H) | exact H
                         have Ny725 := zbaaq hy725
                         clear hy725
                         have H' := zbaaq H
                         clear H
                         have p701 : 0 ≤ (zbaau : Int) := of_decide_eq_true (by first | (with_reducible assumption) | assumption)
                         have q701 : zbaau < (l1.length : Int) := of_decide_eq_true (by first | (with_reducible assumption) | assumption)
                         obtain ⟨ad701, e701, hx701_0⟩ := Kd.at_int HR1.out zbaau p701 q701
                         cases e701
                         replace hx701_0 := (HB.out.cell (zbaad w _ hx701_0)).trans hx701_0
                         replace p701 := eq_true p701
                         replace q701 := eq_true q701
                         obtain ⟨Ao44, co44, eo44⟩ := Kd.N_slice HO_6.out
                         subst eo44
                         have p702 : 0 ≤ ((rd l1 zbaau) : Int) := of_decide_eq_true (by first | (with_reducible assumption) | assumption)
                         have q702 : (rd l1 zbaau) < (zbaay.length : Int) := of_decide_eq_true (by first | (with_reducible assumption) | assumption)
                         obtain ⟨ad702, A702_4, c702_4, e702, hx702_0, hx702_1, hx702_2, hx702_3, hx702_4, hl702_4, hi702_4⟩ := at_T36 (Kd.N_reads' HO_6.out).2.2 (rd l1 zbaau) p702 q702
                         cases e702
                         obtain ⟨ce702, hce702, hMe702, hcc702⟩ := Kd.N_get HO_6.out z36 (rd l1 zbaau) p702 (by first | exact q702 | exact of_decide_eq_true (by first | (with_reducible assumption) | assumption) | (have e_ := (Kd.N_reads' HO_6.out).1; omega))
                         obtain ⟨ua702_4, uc702_4, rfl, ul702_4, ge702_4⟩ := k36_openF hMe702
                         have hv702_4 := hcc702 4 _ rfl
                         rw [add_field _ _ 4 (by omega)] at hv702_4
                         replace hv702_4 := Option.some.inj (hv702_4.symm.trans hx702_4)
                         injection hv702_4 with hva_ hvn_ hvc_
                         rw [hva_] at ge702_4
                         rw [hvc_] at ul702_4
                         have HL702_4 := zbaaq (show Kd.V k74 74 _ w.heap.size _ _ ((rd_T36 zbaay (rd l1 zbaau)).f4) from Kd.V_mk ul702_4 ge702_4)
                         clear hva_ hvn_ hvc_ ge702_4 ul702_4
                         clear hcc702 hce702
                         have HR702_4 := zbaaq hi702_4
                         have HC702_4 := zbaaq hl702_4
                         clear hi702_4 hl702_4
                         replace p702 := eq_true p702
                         replace q702 := eq_true q702
                         obtain ⟨Ao45, co45, eo45⟩ := Kd.V_slice HO_5.out
                         subst eo45
                         try go_wp2_with (first | ((with_reducible refine gate_callee (f := 19) rfl ?_); refine goesL_ (some 83) rfl rfl Try.func19 (by kernel_rfl) rfl #[.slice Ao45 zbabg.length co45, .int .i64 ((rd_T36 zbaay (rd l1 zbaau)).f0)] rfl (by (try simp only [zbaan, zbaao, zbaap]); first | done | rfl) ?_; (with_reducible refine (chain_Drop.calls kj20 _ _ zbabg ((rd_T36 zbaay (rd l1 zbaau)).f0) t703 t706 _ ?side1 ?side2 A35.out).mono ?_); (case side1 => repeat (first | exact (Kd.V_reads' HO_5.out).2.2 | (with_reducible refine Kd.C_alloc ?_ _) | (with_reducible refine Kd.C_drewN ?_ _) | (with_reducible refine Kd.C_drew ?_))); (case side2 => exact (Kd.V_reads' HO_5.out).2.1); rintro e w46 ⟨v704, rfl, ho0, hb⟩; refine ⟨_, rfl, ?_⟩; have n0_ := zbaaq (Kd.V_below (by (with_reducible repeat (first | apply Kd.V_alloc | apply Kd.V_drewN | apply Kd.V_drew)); exact HO_5.out) hb); have n1_ := zbaaq (Kd.N_below (by (with_reducible repeat (first | apply Kd.N_alloc | apply Kd.N_drewN | apply Kd.N_drew)); exact HO_6.out) hb); have n2_ := zbaaq (Kd.V_below (by (with_reducible repeat (first | apply Kd.V_alloc | apply Kd.V_drewN | apply Kd.V_drew)); exact HL702_4.out) hb); have n3_ := zbaaq (Kd.V_lower (Kd.V_mono (ok' := fun k_ => some k_ ≠ (.slice (some ad702) zbaay.length co44 : Value).ownBlock) ho0 (fun k_ hk_ => (Kd.fresh' (Kd.N_lt (by (with_reducible repeat (first | apply Kd.N_alloc | apply Kd.N_drewN | apply Kd.N_drew)); exact HO_6.out)) k_ hk_))) (below_size (by repeat (first | (with_reducible first | exact HB.out | apply zbaak | apply zbaai | apply zbaaj) | exact HB.out)))); have n4_ := zbaaq (Kd.C_below (by repeat (first | (with_reducible exact HR702_4.out) | (with_reducible refine Kd.C_alloc ?_ _) | (with_reducible refine Kd.C_drewN ?_ _) | (with_reducible refine Kd.C_drew ?_) | exact HR702_4.out)) hb); have n5_ := zbaaq (below_step (by repeat (first | (with_reducible first | exact HB.out | apply zbaak | apply zbaai | apply zbaaj) | exact HB.out)) hb); clear HO_5; clear HO_6; clear HL702_4; clear HR702_4; clear HB; have HO_5 := n0_; have HO_6 := n1_; have HL702_4 := n2_; have HO705 := n3_; have HR702_4 := n4_; have HB := n5_; clear n0_ n1_ n2_ n3_ n4_ n5_; (try clear hb); (try clear hk); (try clear hi); (try clear ho0)))
                         have n0_ := zbaaq (Kd.V_drew HO_5.out)
                         have n1_ := zbaaq (Kd.N_drew HO_6.out)
                         have n2_ := zbaaq (Kd.V_drew HL702_4.out)
                         have n3_ := zbaaq (Kd.V_drew HO705.out)
                         have n4_ := zbaaq (Kd.C_drew HR702_4.out)
                         have n5_ := zbaaq (zbaaj HB.out)
                         clear HO_5
                         clear HO_6
                         clear HL702_4
                         clear HO705
                         clear HR702_4
                         clear HB
                         have HO_5 := n0_
                         have HO_6 := n1_
                         have HL702_4 := n2_
                         have HO705 := n3_
                         have HR702_4 := n4_
                         have HB := n5_
                         clear n0_ n1_ n2_ n3_ n4_ n5_
                         have p710 : 0 ≤ (zbaau : Int) := of_decide_eq_true (by first | (with_reducible assumption) | assumption)
                         have q710 : zbaau < (l1.length : Int) := of_decide_eq_true (by first | (with_reducible assumption) | assumption)
                         obtain ⟨ad710, e710, hx710_0⟩ := Kd.at_int HR1.out zbaau p710 q710
                         have hw710_0 := hx710_0
                         obtain rfl : ad701 = ad710 := (by injection e710)
                         replace hx710_0 := (HB.out.cell (zbaad w _ hx710_0)).trans hx710_0
                         replace p710 := eq_true p710
                         replace q710 := eq_true q710
                         have q48 : ((rd l1 zbaau) : Int) ≤ ((zbaay.length : Int) : Int) := of_decide_eq_true (by first | (with_reducible assumption) | assumption)
                         obtain ⟨i048, hi048, _, hsz48, _⟩ := info_parts info36
                         have hroom48 : zbaay.length ≤ co44 := (Kd.N_reads' HO_6.out).2.1
                         have hC48 : Kd.F k36 _ _ (some ad702) zbaay.length zbaay := (Kd.V_at (base := w.heap.size) (Kd.N_V HO_6.out)).2.2
                         have hcut48 := cut_to (P := Try.prog) 42 36 .i64 Try.underlying42 hi048 (some ad702) zbaay.length co44 (rd l1 zbaau) (of_decide_eq_true (by first | (with_reducible assumption) | assumption)) q48 hroom48
                         have hr48 := Kd.F_take (m := ((rd l1 zbaau) : Int).toNat) hC48 (by omega)
                         have hy48 : y711.length = ((rd l1 zbaau) : Int).toNat := (by rw [Ny711.out, List.length_take]; omega)
                         rw [← Ny711.out] at hr48
                         rw [← hy48] at hcut48
                         have HO715 := zbaaq (show Kd.V k36 36 _ w.heap.size _ (.slice (some ad702) y711.length co44) y711 from Kd.V_mk (by omega) hr48)
                         have HC715 := zbaaq (show y711.length ≤ co44 from by omega)
                         clear hr48 hC48 hroom48 hi048 hsz48
                         have KY48 := zbaaq hy48
                         clear hy48
                         replace q48 := eq_true q48
                         have p719 : 0 ≤ (zbaau : Int) := of_decide_eq_true (by first | (with_reducible assumption) | assumption)
                         have q719 : zbaau < (l1.length : Int) := of_decide_eq_true (by first | (with_reducible assumption) | assumption)
                         obtain ⟨ad719, e719, hx719_0⟩ := Kd.at_int HR1.out zbaau p719 q719
                         have hw719_0 := hx719_0
                         obtain rfl : ad701 = ad719 := (by injection e719)
                         replace hx719_0 := (HB.out.cell (zbaad w _ hx719_0)).trans hx719_0
                         replace p719 := eq_true p719
                         replace q719 := eq_true q719
                         have q49 : ((ji40) : Int) ≤ ((zbaay.length : Int) : Int) := of_decide_eq_true (by first | (with_reducible assumption) | assumption)
                         obtain ⟨i049, hi049, _, hsz49, _⟩ := info_parts info36
                         have hroom49 : zbaay.length ≤ co44 := (Kd.N_reads' HO_6.out).2.1
                         have hC49 : Kd.F k36 _ _ (some ad702) zbaay.length zbaay := (Kd.V_at (base := w.heap.size) (Kd.N_V HO_6.out)).2.2
                         have q049 : (0 : Int) ≤ ((ji40) : Int) := of_decide_eq_true (by first | (with_reducible assumption) | assumption)
                         have hcut49 := cut_from (P := Try.prog) 42 36 .i64 Try.underlying42 hi049 5 hsz49 (some ad702) zbaay.length co44 (ji40) q049 q49
                         have hr49 := Kd.F_cut (m := ((ji40) : Int).toNat) (c := co44) hC49 (by omega) hroom49
                         obtain ⟨A49, hA49⟩ : ∃ A1, A1 = (if co44 = ((ji40) : Int).toNat then (some ad702) else ((some ad702) : Option Addr).map (·.add (((ji40) : Int).toNat * 5))) := ⟨_, rfl⟩
                         obtain ⟨c49, hc49⟩ : ∃ c1, c1 = co44 - ((ji40) : Int).toNat := ⟨_, rfl⟩
                         have hy49 : y720.length = zbaay.length - ((ji40) : Int).toNat := (by rw [Ny720.out, List.length_drop] <;> omega)
                         rw [show (zbaay).drop ((ji40) : Int).toNat = y720 from Ny720.out.symm] at hr49
                         replace hr49 : Kd.F k36 _ _ A49 y720.length y720 := (by rw [hA49]; exact hr49)
                         rw [← hy49, ← hA49, ← hc49] at hcut49
                         have HO724 := zbaaq (show Kd.V k36 36 _ w.heap.size _ (.slice A49 y720.length c49) y720 from Kd.V_mk (by rw [hy49, hc49]; exact Nat.sub_le_sub_right hroom49 _) hr49)
                         have HC724 := zbaaq (show y720.length ≤ c49 from by rw [hy49, hc49]; exact Nat.sub_le_sub_right hroom49 _)
                         clear hr49 hC49 hroom49 hi049 hsz49 hc49
                         have KY49 := zbaaq hy49
                         have KA49 := zbaaq hA49
                         clear hy49 hA49
                         replace q49 := eq_true q49
                         refine start_ (n := 17) (S := fun w' => w'.cell? (ad701.add (zbaau).toNat) = some (.int .i64 (rd l1 zbaau)) ∧ w'.cell? (ad701.add (zbaau).toNat) = some (.int .i64 (rd l1 zbaau))) (ds := []) zbasq0 (by kernel_rfl) rfl rfl ⟨((HB.out.cell (zbaad w _ hw710_0)).trans hw710_0), ((HB.out.cell (zbaad w _ hw719_0)).trans hw719_0)⟩ (fun hHeld => ?_); refine with_tabW stowagelaw13_ChainNewest.tab17 stowagelaw13_ChainNewest.bits17 (fun HT_ HW_ => ?_)
                         generalize w46.drew = w47 at HO_5 HO_6 HL702_4 HO705 HR702_4 HB HO715 HO724 hx710_0 hx719_0 hHeld ⊢
                         refine pure_ (i := 1) (N := some 90) (v := ?_) (a' := ?_) zbasq1 rfl rfl (any_of HT_.out (by kernel_rfl)) (fun _ _ _ h => h) (Or.inl ⟨by rfl, ?_⟩) ?_ ?_
                         rotate_left
                         ·intro w'
                          go_simp
                          with_reducible rfl
                         rotate_left
                         ·simp only [Act.put, zbaaa, zbaab, zbaac, i64_w, i32_w]
                          rfl
                         refine pure_ (i := 2) (N := some 91) (v := ?_) (a' := ?_) zbasq2 rfl rfl (any_of HT_.out (by kernel_rfl)) (fun _ _ _ h => h) (Or.inl ⟨by rfl, ?_⟩) ?_ ?_
                         rotate_left
                         ·intro w'
                          go_simp
                          with_reducible rfl
                         rotate_left
                         ·simp only [Act.put, zbaaa, zbaab, zbaac, i64_w, i32_w]
                          rfl
                         refine pure_ (i := 3) (N := some 92) (v := ?_) (a' := ?_) zbasq3 rfl rfl (any_of HT_.out (by kernel_rfl)) (fun _ _ _ h => h) (Or.inl ⟨by rfl, ?_⟩) ?_ ?_
                         rotate_left
                         ·intro w'
                          go_simp
                          with_reducible rfl
                         rotate_left
                         ·simp only [Act.put, zbaaa, zbaab, zbaac, i64_w, i32_w]
                          rfl
                         refine pure_ (i := 4) (N := some 93) (v := ?_) (a' := ?_) zbasq4 rfl rfl (any_of HT_.out (by kernel_rfl)) (fun _ _ _ h => h) (Or.inl ⟨by rfl, ?_⟩) ?_ ?_
                         rotate_left
                         ·intro w'
                          go_simp
                          with_reducible rfl
                         rotate_left
                         ·simp only [Act.put, zbaaa, zbaab, zbaac, i64_w, i32_w]
                          rfl
                         refine pure_ (i := 8) (N := some 97) (v := ?_) (a' := ?_) zbasq5 rfl rfl (any_of HT_.out (by kernel_rfl)) (fun _ _ _ h => h) (Or.inl ⟨by rfl, ?_⟩) ?_ ?_
                         rotate_left
                         ·intro w'
                          go_simp
                          with_reducible rfl
                         rotate_left
                         ·simp only [Act.put, zbaaa, zbaab, zbaac, i64_w, i32_w]
                          rfl
                         refine pure_ (i := 9) (N := some 98) (v := ?_) (a' := ?_) zbasq6 rfl rfl (any_of HT_.out (by kernel_rfl)) (fun _ _ _ h => h) (Or.inl ⟨by rfl, ?_⟩) ?_ ?_
                         rotate_left
                         ·intro w'
                          go_simp
                          with_reducible rfl
                         rotate_left
                         ·simp only [Act.put, zbaaa, zbaab, zbaac, i64_w, i32_w]
                          rfl
                         refine pure_ (i := 10) (N := some 99) (v := ?_) (a' := ?_) zbasq7 rfl rfl (any_of HT_.out (by kernel_rfl)) (fun _ _ _ h => h) (Or.inl ⟨by rfl, ?_⟩) ?_ ?_
                         rotate_left
                         ·intro w'
                          go_simp
                          with_reducible rfl
                         rotate_left
                         ·simp only [Act.put, zbaaa, zbaab, zbaac, i64_w, i32_w]
                          rfl
                         refine pure_ (i := 11) (N := some 100) (v := ?_) (a' := ?_) zbasq8 rfl rfl (any_of HT_.out (by kernel_rfl)) (fun _ _ _ h => h) (Or.inl ⟨by rfl, ?_⟩) ?_ ?_
                         rotate_left
                         ·intro w'
                          go_simp
                          with_reducible rfl
                         rotate_left
                         ·simp only [Act.put, zbaaa, zbaab, zbaac, i64_w, i32_w]
                          rfl
                         refine take_ (i := 5) (N := some 94) (v := ?_) (a' := ?_) zbasq9 rfl rfl (take_ofW HT_.out HW_.out (by kernel_rfl)) (fun _ _ _ h => h) (Or.inl ⟨by rfl, ?_⟩) hHeld ?_ ?_
                         rotate_left
                         ·rintro w' ⟨s0, s1⟩
                          go_simp
                          with_reducible rfl
                         rotate_left
                         ·simp only [Act.put, zbaaa, zbaab, zbaac, i64_w, i32_w]
                          rfl
                         refine pure_ (i := 6) (N := some 95) (v := ?_) (a' := ?_) zbasq10 rfl rfl (any_of HT_.out (by kernel_rfl)) (fun _ _ _ h => h) (Or.inl ⟨by rfl, ?_⟩) ?_ ?_
                         rotate_left
                         ·intro w'
                          go_simp
                          with_reducible rfl
                         rotate_left
                         ·simp only [Act.put, zbaaa, zbaab, zbaac, i64_w, i32_w]
                          rfl
                         refine take_ (i := 12) (N := some 101) (v := ?_) (a' := ?_) zbasq11 rfl rfl (take_ofW HT_.out HW_.out (by kernel_rfl)) (fun _ _ _ h => h) (Or.inl ⟨by rfl, ?_⟩) hHeld ?_ ?_
                         rotate_left
                         ·rintro w' ⟨s0, s1⟩
                          go_simp
                          with_reducible rfl
                         rotate_left
                         ·simp only [Act.put, zbaaa, zbaab, zbaac, i64_w, i32_w]
                          rfl
                         refine pure_ (i := 13) (N := some 102) (v := ?_) (a' := ?_) zbasq12 rfl rfl (any_of HT_.out (by kernel_rfl)) (fun _ _ _ h => h) (Or.inl ⟨by rfl, ?_⟩) ?_ ?_
                         rotate_left
                         ·intro w'
                          go_simp
                          with_reducible rfl
                         rotate_left
                         ·simp only [Act.put, zbaaa, zbaab, zbaac, i64_w, i32_w]
                          rfl
                         refine pure_ (i := 14) (N := some 103) (v := ?_) (a' := ?_) zbasq13 rfl rfl (any_of HT_.out (by kernel_rfl)) (fun _ _ _ h => h) (Or.inl ⟨by rfl, ?_⟩) ?_ ?_
                         rotate_left
                         ·intro w'
                          go_simp
                          with_reducible rfl
                         rotate_left
                         ·simp only [Act.put, zbaaa, zbaab, zbaac, i64_w, i32_w]
                          rfl
                         refine one_ (i := 0) (N := some 89) zbasq14 rfl rfl (one_of HT_.out (by kernel_rfl)) (by decide) (fun K hK => ?_)
                         refine Kd.N_lit_step k36 _ 36 ?hg (N' := 89) ?hd (xs := ([] : List (S36))) (inner := []) (ok := (fun k_ => some k_ ≠ (.slice (some ad702) zbaay.length co44 : Value).ownBlock)) (okp := (fun k_ => some k_ ≠ (.slice (some ad702) zbaay.length co44 : Value).ownBlock)) ?hr ?hp (fun _ hk => hk) ((show ∀ k_, w47.heap.size ≤ k_ → (fun k_ => some k_ ≠ (.slice (some ad702) zbaay.length co44 : Value).ownBlock) k_ from fun k_ hk => Kd.fresh' (Kd.N_lt (by (with_reducible repeat (first | apply Kd.N_alloc | apply Kd.N_drewN | apply Kd.N_drew)); exact HO_6.out)) k_ hk) _ (Nat.le_refl _)) (Below.refl _ _) (Nat.le_refl _) (by simp) ?_; (case hd => rfl); (case hg => rfl); (case hr => first | (go_simp; done) | (go_simp; rfl)); (case hp => exact (Reps.none _ _))
                         intro v708 w50 ho51 hb hg_ hnew_
                         clear hg_ hnew_
                         (first | rw [← Ny707.out] at ho51 | (simp only [Int.reduceToNat] at ho51; rw [← Ny707.out] at ho51))
                         have n0_ := zbaaq (Kd.V_elder' (by (with_reducible repeat (first | apply Kd.V_alloc | apply Kd.V_drewN | apply Kd.V_drew)); exact HO_5.out) (by first | exact Kd.N_base ho51 | exact Kd.N_base (Kd.S_N ho51)) hb)
                         have n1_ := zbaaq (Kd.N_elder' (by (with_reducible repeat (first | apply Kd.N_alloc | apply Kd.N_drewN | apply Kd.N_drew)); exact HO_6.out) (by first | exact Kd.N_base ho51 | exact Kd.N_base (Kd.S_N ho51)) hb)
                         have n2_ := zbaaq (Kd.V_elder' (by (with_reducible repeat (first | apply Kd.V_alloc | apply Kd.V_drewN | apply Kd.V_drew)); exact HL702_4.out) (by first | exact Kd.N_base ho51 | exact Kd.N_base (Kd.S_N ho51)) hb)
                         have n3_ := zbaaq (Kd.V_elder' (by (with_reducible repeat (first | apply Kd.V_alloc | apply Kd.V_drewN | apply Kd.V_drew)); exact HO705.out) (by first | exact Kd.N_base ho51 | exact Kd.N_base (Kd.S_N ho51)) hb)
                         have n4_ := zbaaq (Kd.V_elder' (by (with_reducible repeat (first | apply Kd.V_alloc | apply Kd.V_drewN | apply Kd.V_drew)); exact HO715.out) (by first | exact Kd.N_base ho51 | exact Kd.N_base (Kd.S_N ho51)) hb)
                         have n5_ := zbaaq (Kd.V_elder' (by (with_reducible repeat (first | apply Kd.V_alloc | apply Kd.V_drewN | apply Kd.V_drew)); exact HO724.out) (by first | exact Kd.N_base ho51 | exact Kd.N_base (Kd.S_N ho51)) hb)
                         have n6_ := zbaaq (Kd.N_lower ho51 (below_size (by repeat (first | (with_reducible first | exact HB.out | apply zbaak | apply zbaai | apply zbaaj) | exact HB.out))))
                         have n7_ := zbaaq (Kd.C_below (by repeat (first | (with_reducible exact HR702_4.out) | (with_reducible refine Kd.C_alloc ?_ _) | (with_reducible refine Kd.C_drewN ?_ _) | (with_reducible refine Kd.C_drew ?_) | exact HR702_4.out)) hb)
                         have n8_ := zbaaq (below_step (by repeat (first | (with_reducible first | exact HB.out | apply zbaak | apply zbaai | apply zbaaj) | exact HB.out)) hb)
                         clear HO_5
                         clear HO_6
                         clear HL702_4
                         clear HO705
                         clear HO715
                         clear HO724
                         clear HR702_4
                         clear HB
                         have HO_5 := n0_
                         have HO_6 := n1_
                         have HL702_4 := n2_
                         have HO705 := n3_
                         have HO715 := n4_
                         have HO724 := n5_
                         have HO709 := n6_
                         have HR702_4 := n7_
                         have HB := n8_
                         clear n0_ n1_ n2_ n3_ n4_ n5_ n6_ n7_ n8_
                         clear hb ho51
                         refine hK.out _ _ ⟨((HB.out.cell (zbaad w _ hw710_0)).trans hw710_0), ((HB.out.cell (zbaad w _ hw719_0)).trans hw719_0)⟩ (fun hHeld => ?_)
                         clear hK K
                         refine norm_ (a' := ?_) ?_ ?_
                         rotate_left
                         ·show Act.put _ (some 89) _ = _
                          simp only [Act.put, zbaaa, zbaab, zbaac, i64_w, i32_w]
                          rfl
                         refine one_ (i := 7) (N := some 96) zbasq15 rfl rfl (one_of HT_.out (by kernel_rfl)) (by decide) (fun K hK => ?_)
                         refine Kd.N_append_rows_step k36 (w0 := w) w.heap.size (by rfl) (.tmp 89) (.tmp 95) 42 36 (.agg #[(.int .i64 0), (.bool false), (.int .i64 0), (.string ⟨#[]⟩), (.slice none 0 0)]) 64 rfl Try.underlying42 info36 rfl (by decide) (by omega) v708 y707 y711 _ _ _ (fun _ => True) (fun k_ => ((fun _ => True)) k_ ∧ some k_ ≠ (v708 : Value).ownBlock) rfl rfl ?aO ?aR (fun _ hk => hk) ?aF ?aB ?aS ?aL ?_
                         (case aR => exact (by skip; exact Kd.V_F (Kd.V_mono (ok' := (fun k_ => ((fun _ => True)) k_ ∧ some k_ ≠ (v708 : Value).ownBlock)) (HO715.out) (fun k_ hk => ⟨trivial, hk.2⟩))))
                         (case aB => exact (by repeat (first | (with_reducible first | exact HB.out | apply zbaak | apply zbaai | apply zbaaj) | exact HB.out)))
                         (case aF => exact (fun _ _ => trivial))
                         (case aO => exact (by (with_reducible repeat (first | apply Kd.N_alloc | apply Kd.N_drewN | apply Kd.N_drew)); exact Kd.N_mono HO709.out (fun _ hk => trivial)))
                         (case aS => exact (below_size (by repeat (first | (with_reducible first | exact HB.out | apply zbaak | apply zbaai | apply zbaaj) | exact HB.out))))
                         (case aL => have := LMc39.out; omega)
                         intro v717 w52 ho hb hg hat
                         rw [← Ny716.out] at ho
                         have n0_ := zbaaq (Kd.V_afterv (ok := (fun k_ => some k_ ≠ (.slice (some ad702) zbaay.length co44 : Value).ownBlock)) (by (with_reducible repeat (first | apply Kd.V_alloc | apply Kd.V_drewN | apply Kd.V_drew)); exact HO_5.out) hg hat)
                         have n1_ := zbaaq (Kd.N_afterv (ok := (fun _ => True)) (by (with_reducible repeat (first | apply Kd.N_alloc | apply Kd.N_drewN | apply Kd.N_drew)); exact HO_6.out) hg hat)
                         have n2_ := zbaaq (Kd.V_afterv (ok := (fun k_ => some k_ ≠ (.slice (some ad702) zbaay.length co44 : Value).ownBlock)) (by (with_reducible repeat (first | apply Kd.V_alloc | apply Kd.V_drewN | apply Kd.V_drew)); exact Kd.V_mono HL702_4.out (fun _ hk => ⟨hk.1.2, hk.2⟩)) hg hat)
                         have n3_ := zbaaq (Kd.V_afterv (ok := (fun k_ => some k_ ≠ (.slice (some ad702) zbaay.length co44 : Value).ownBlock)) (by (with_reducible repeat (first | apply Kd.V_alloc | apply Kd.V_drewN | apply Kd.V_drew)); exact HO705.out) hg hat)
                         have n4_ := zbaaq (Kd.V_afterv (ok := (fun _ => True)) (by (with_reducible repeat (first | apply Kd.V_alloc | apply Kd.V_drewN | apply Kd.V_drew)); exact HO715.out) hg hat)
                         have n5_ := zbaaq (Kd.V_afterv (ok := (fun _ => True)) (by (with_reducible repeat (first | apply Kd.V_alloc | apply Kd.V_drewN | apply Kd.V_drew)); exact HO724.out) hg hat)
                         have n6_ := zbaaq (hb)
                         have n7_ := zbaaq (ho)
                         clear HO_5
                         clear HO_6
                         clear HL702_4
                         clear HO705
                         clear HO715
                         clear HO724
                         clear HB
                         clear HO709
                         have HO_5 := n0_
                         have HO_6 := n1_
                         have HL702_4 := n2_
                         have HO705 := n3_
                         have HO715 := n4_
                         have HO724 := n5_
                         have HB := n6_
                         have HO718 := n7_
                         clear n0_ n1_ n2_ n3_ n4_ n5_ n6_ n7_
                         clear ho hb hg hat
                         refine hK.out _ _ ⟨((HB.out.cell (zbaad w _ hw710_0)).trans hw710_0), ((HB.out.cell (zbaad w _ hw719_0)).trans hw719_0)⟩ (fun hHeld => ?_)
                         clear hK K
                         refine norm_ (a' := ?_) ?_ ?_
                         rotate_left
                         ·show Act.put _ (some 96) _ = _
                          simp only [Act.put, zbaaa, zbaab, zbaac, i64_w, i32_w]
                          rfl
                         refine one_ (i := 15) (N := some 104) zbasq16 rfl rfl (one_of HT_.out (by kernel_rfl)) (by decide) (fun K hK => ?_)
                         refine Kd.N_append_rows_step k36 (w0 := w) w.heap.size (by rfl) (.tmp 96) (.tmp 103) 42 36 (.agg #[(.int .i64 0), (.bool false), (.int .i64 0), (.string ⟨#[]⟩), (.slice none 0 0)]) 64 rfl Try.underlying42 info36 rfl (by decide) (by omega) v717 y716 y720 _ _ _ (fun _ => True) (fun k_ => ((fun _ => True)) k_ ∧ some k_ ≠ (v717 : Value).ownBlock) rfl rfl ?aO ?aR (fun _ hk => hk) ?aF ?aB ?aS ?aL ?_
                         (case aR => exact (by skip; exact Kd.V_F (Kd.V_mono (ok' := (fun k_ => ((fun _ => True)) k_ ∧ some k_ ≠ (v717 : Value).ownBlock)) (HO724.out) (fun k_ hk => ⟨trivial, hk.2⟩))))
                         (case aB => exact (by repeat (first | (with_reducible first | exact HB.out | apply zbaak | apply zbaai | apply zbaaj) | exact HB.out)))
                         (case aF => exact (fun _ _ => trivial))
                         (case aO => exact (by (with_reducible repeat (first | apply Kd.N_alloc | apply Kd.N_drewN | apply Kd.N_drew)); exact HO718.out))
                         (case aS => exact (below_size (by repeat (first | (with_reducible first | exact HB.out | apply zbaak | apply zbaai | apply zbaaj) | exact HB.out))))
                         (case aL => have := LMc43.out; omega)
                         intro v726 w53 ho hb hg hat
                         rw [← Ny725.out] at ho
                         have n0_ := zbaaq (Kd.V_afterv (ok := (fun k_ => some k_ ≠ (.slice (some ad702) zbaay.length co44 : Value).ownBlock)) (by (with_reducible repeat (first | apply Kd.V_alloc | apply Kd.V_drewN | apply Kd.V_drew)); exact HO_5.out) hg hat)
                         have n1_ := zbaaq (Kd.N_afterv (ok := (fun _ => True)) (by (with_reducible repeat (first | apply Kd.N_alloc | apply Kd.N_drewN | apply Kd.N_drew)); exact HO_6.out) hg hat)
                         have n2_ := zbaaq (Kd.V_afterv (ok := (fun k_ => some k_ ≠ (.slice (some ad702) zbaay.length co44 : Value).ownBlock)) (by (with_reducible repeat (first | apply Kd.V_alloc | apply Kd.V_drewN | apply Kd.V_drew)); exact HL702_4.out) hg hat)
                         have n3_ := zbaaq (Kd.V_afterv (ok := (fun k_ => some k_ ≠ (.slice (some ad702) zbaay.length co44 : Value).ownBlock)) (by (with_reducible repeat (first | apply Kd.V_alloc | apply Kd.V_drewN | apply Kd.V_drew)); exact HO705.out) hg hat)
                         have n4_ := zbaaq (Kd.V_afterv (ok := (fun _ => True)) (by (with_reducible repeat (first | apply Kd.V_alloc | apply Kd.V_drewN | apply Kd.V_drew)); exact HO715.out) hg hat)
                         have n5_ := zbaaq (Kd.V_afterv (ok := (fun _ => True)) (by (with_reducible repeat (first | apply Kd.V_alloc | apply Kd.V_drewN | apply Kd.V_drew)); exact HO724.out) hg hat)
                         have n6_ := zbaaq (hb)
                         have n7_ := zbaaq (ho)
                         clear HO_5
                         clear HO_6
                         clear HL702_4
                         clear HO705
                         clear HO715
                         clear HO724
                         clear HB
                         clear HO718
                         have HO_5 := n0_
                         have HO_6 := n1_
                         have HL702_4 := n2_
                         have HO705 := n3_
                         have HO715 := n4_
                         have HO724 := n5_
                         have HB := n6_
                         have HO727 := n7_
                         clear n0_ n1_ n2_ n3_ n4_ n5_ n6_ n7_
                         clear ho hb hg hat
                         refine hK.out _ _ ⟨((HB.out.cell (zbaad w _ hw710_0)).trans hw710_0), ((HB.out.cell (zbaad w _ hw719_0)).trans hw719_0)⟩ (fun hHeld => ?_)
                         clear hK K
                         refine norm_ (a' := ?_) ?_ ?_
                         rotate_left
                         ·show Act.put _ (some 104) _ = _
                          simp only [Act.put, zbaaa, zbaab, zbaac, i64_w, i32_w]
                          rfl
                         refine pure_ (i := 16) (N := some 6) (v := ?_) (a' := ?_) zbasq17 rfl rfl (any_of HT_.out (by kernel_rfl)) (fun _ _ _ h => h) (Or.inl ⟨by rfl, ?_⟩) ?_ ?_
                         rotate_left
                         ·intro w'
                          go_simp
                          with_reducible rfl
                         rotate_left
                         ·simp only [Act.put, zbaaa, zbaab, zbaac, i64_w, i32_w]
                          rfl
                         refine done_ (done_of HT_.out (by kernel_rfl)) ?_
                         try go_wp2
                         go_meet
                         case rel => exact ⟨_, (t703), (y725), H', ⟨by have := HK1.out; have := HJ5.out; have := HJ11.out; have := HJ20.out; first | omega | exact Nat.le_refl _⟩, ⟨by (with_reducible repeat (first | apply Kd.V_alloc | apply Kd.V_drewN | apply Kd.V_drew)); exact Kd.V_mono HO705.out (fun _ hk => hk.2)⟩, ⟨by (with_reducible repeat (first | apply Kd.N_alloc | apply Kd.N_drewN | apply Kd.N_drew)); exact HO727.out⟩, ⟨by repeat (first | (with_reducible first | exact HB.out | apply zbaak | apply zbaai | apply zbaaj) | exact HB.out)⟩⟩
                        ·rw [if_neg c43] at H
                         exact absurd H (by simp)
                       ·rw [if_neg c42] at H
                        exact absurd H (by simp)
                      ·rw [if_neg c41] at H
                       exact absurd H (by simp)
                     ·rw [if_neg c39] at H
                      exact absurd H (by simp)
                    ·rw [if_neg c38] at H
                     exact absurd H (by simp)
                   ·rw [if_neg c36] at H
                    have c36b0 : (t706 == 0) = false := beq_eq_false_iff_ne.mpr c36
                    have c36b1 : (t706 != 0) = true := bne_iff_ne.mpr c36
                    exact absurd ((Option.some.inj H).trans HTR.out) Bool.false_ne_true
                  ·rw [if_neg c34] at H
                   exact absurd H (by simp)
                 ·rw [if_neg c33] at H
                  exact absurd H (by simp)
                ·rw [if_neg c32] at H
                 exact absurd H (by simp)
               ·rw [if_neg c31] at H
                exact absurd H (by simp)
              ·replace c30 := Bool.eq_false_iff.mpr c30
               subst c30
               have H1 : (stowagelaw13_ChainNewest.j4 kj20 l0 l1 zbabg zbaay zbaau) = some r := by rw [if_neg (show ¬ (false = true) by decide)] at H; exact H
               clear H
               have H := H1
               clear H1
               have H' := zbaaq H
               clear H
               go_wp2
               go_meet
               case rel => exact ⟨_, (zbabg), (zbaay), H', ⟨by have := HK1.out; have := HJ5.out; have := HJ11.out; have := HJ20.out; first | omega | exact Nat.le_refl _⟩, ⟨by (with_reducible repeat (first | apply Kd.V_alloc | apply Kd.V_drewN | apply Kd.V_drew)); exact HO_5.out⟩, ⟨by (with_reducible repeat (first | apply Kd.N_alloc | apply Kd.N_drewN | apply Kd.N_drew)); exact HO_6.out⟩, ⟨by repeat (first | (with_reducible first | exact HB.out | apply zbaak | apply zbaai | apply zbaaj) | exact HB.out)⟩⟩
             case rest =>
              clear HC29
              try clear c1
              try clear c2
              try clear p2
              try clear c3
              try clear c4
              try clear q4
              try clear c5
              try clear c6
              try clear p6
              try clear q6
              try clear hx6
              try clear c7
              try clear c7b0
              try clear p7
              try clear q7
              try clear hx7
              try clear c8
              try clear c9
              try clear c9b0
              try clear c10
              try clear c10b0
              try clear c12
              try clear c15
              try clear c15b0
              try clear c15b1
              try clear c16
              try clear c17
              try clear c19
              try clear c22
              try clear c22b0
              try clear c23
              try clear c23b0
              try clear c23b1
              try clear c24
              try clear c24b0
              try clear c25
              try clear c25b0
              try clear c30
              try clear c31
              try clear c31b0
              try clear c32
              try clear c32b0
              try clear c33
              try clear c33b0
              try clear c34
              try clear c34b0
              try clear c36
              try clear c36b0
              try clear c36b1
              try clear c37
              try clear c37b0
              try clear c38
              try clear c38b0
              try clear c38b1
              try clear c39
              try clear c41
              try clear c41b0
              try clear c41b1
              try clear c42
              try clear c42b0
              try clear c42b1
              try clear c43
              try clear q48
              try clear c49
              try clear q49
              try clear hx683_0
              try clear hx683_1
              try clear hx683_2
              try clear hx683_3
              try clear hx683_4
              try clear hx688_0
              try clear hx688_1
              try clear hx688_2
              try clear hx688_3
              try clear hx688_4
              try clear hx699_0
              try clear hx700_0
              try clear hx701_0
              try clear hx702_0
              try clear hx702_1
              try clear hx702_2
              try clear hx702_3
              try clear hx702_4
              try clear hx710_0
              try clear hx719_0
              try clear p2
              try clear p6
              try clear p683
              try clear p688
              try clear p699
              try clear p7
              try clear p700
              try clear p701
              try clear p702
              try clear p710
              try clear p719
              try clear q049
              try clear q48
              try clear q49
              try clear q6
              try clear q683
              try clear q688
              try clear q699
              try clear q7
              try clear q700
              try clear q701
              try clear q702
              try clear q710
              try clear q719
              obtain ⟨kq, zbabb, zbaas, HA, HJ28, HO_5, HO_6, HB⟩ := hcut
              cases kq with
              | zero => exact absurd HA.out (by simp [stowagelaw13_ChainNewest.j4])
              | succ kj28 =>
               have H := HA.out
               clear HA
               simp only [stowagelaw13_ChainNewest.j4] at H
               by_cases c57 : (zbabb.length : Int) = (zbaas.length : Int)
               ·as_aux_lemma =>
                rw [if_pos c57] at H
                have c57b0 : ((zbabb.length : Int) == (zbaas.length : Int)) = true := beq_iff_eq.mpr c57
                have c57b1 : ((zbabb.length : Int) != (zbaas.length : Int)) = false := bne_eq_false_iff_eq.mpr c57
                have c57b2 : (zbabb.length == zbaas.length) = true := by first | simpa using c57 | (simp at c57 ⊢; omega)
                clear c57
                have H' := zbaaq H
                clear H
                obtain ⟨Ao58, co58, eo58⟩ := Kd.V_slice HO_5.out
                subst eo58
                obtain ⟨Ao59, co59, eo59⟩ := Kd.N_slice HO_6.out
                subst eo59
                go_wp2
                go_loopg [10] kj28 (fun kq v10 w' => ∃ (zbaba : Int), v10 = .int .i64 zbaba ∧ Aside0 (stowagelaw13_ChainNewest.l1 kq l0 l1 zbabb zbaas zbaau zbaba = some r) ∧ Aside0 (kq ≤ kj28) ∧ Aside0 (Kd.V k24 24 w' w.heap.size (fun k_ => some k_ ≠ ((.slice Ao59 zbaas.length co59) : Value).ownBlock) (.slice Ao58 zbabb.length co58) zbabb) ∧ Aside0 (Kd.N k36 36 w' w.heap.size (fun _ => True) (.slice Ao59 zbaas.length co59) zbaas) ∧ Aside0 (Below w.heap.size w w'))
                case atStart => exact ⟨(0), (by first | rfl | (simp; done) | (simp [*]; done)), H', ⟨Nat.le_refl _⟩, ⟨by (with_reducible repeat (first | apply Kd.V_alloc | apply Kd.V_drewN | apply Kd.V_drew)); exact HO_5.out⟩, ⟨by (with_reducible repeat (first | apply Kd.N_alloc | apply Kd.N_drewN | apply Kd.N_drew)); exact HO_6.out⟩, ⟨by repeat (first | (with_reducible first | exact HB.out | apply zbaak | apply zbaai | apply zbaaj) | exact HB.out)⟩⟩
                case round =>
                 clear H'
                 try clear c1
                 try clear c2
                 try clear p2
                 try clear c3
                 try clear c4
                 try clear q4
                 try clear c5
                 try clear c6
                 try clear p6
                 try clear q6
                 try clear hx6
                 try clear c7
                 try clear c7b0
                 try clear p7
                 try clear q7
                 try clear hx7
                 try clear c8
                 try clear c9
                 try clear c9b0
                 try clear c10
                 try clear c10b0
                 try clear c12
                 try clear c15
                 try clear c15b0
                 try clear c15b1
                 try clear c16
                 try clear c17
                 try clear c19
                 try clear c22
                 try clear c22b0
                 try clear c23
                 try clear c23b0
                 try clear c23b1
                 try clear c24
                 try clear c24b0
                 try clear c25
                 try clear c25b0
                 try clear c30
                 try clear c31
                 try clear c31b0
                 try clear c32
                 try clear c32b0
                 try clear c33
                 try clear c33b0
                 try clear c34
                 try clear c34b0
                 try clear c36
                 try clear c36b0
                 try clear c36b1
                 try clear c37
                 try clear c37b0
                 try clear c38
                 try clear c38b0
                 try clear c38b1
                 try clear c39
                 try clear c41
                 try clear c41b0
                 try clear c41b1
                 try clear c42
                 try clear c42b0
                 try clear c42b1
                 try clear c43
                 try clear q48
                 try clear c49
                 try clear q49
                 try clear c57
                 try clear c57b0
                 try clear c57b1
                 try clear c57b2
                 try clear hx683_0
                 try clear hx683_1
                 try clear hx683_2
                 try clear hx683_3
                 try clear hx683_4
                 try clear hx688_0
                 try clear hx688_1
                 try clear hx688_2
                 try clear hx688_3
                 try clear hx688_4
                 try clear hx699_0
                 try clear hx700_0
                 try clear hx701_0
                 try clear hx702_0
                 try clear hx702_1
                 try clear hx702_2
                 try clear hx702_3
                 try clear hx702_4
                 try clear hx710_0
                 try clear hx719_0
                 try clear p2
                 try clear p6
                 try clear p683
                 try clear p688
                 try clear p699
                 try clear p7
                 try clear p700
                 try clear p701
                 try clear p702
                 try clear p710
                 try clear p719
                 try clear q049
                 try clear q4
                 try clear q48
                 try clear q49
                 try clear q6
                 try clear q683
                 try clear q688
                 try clear q699
                 try clear q7
                 try clear q700
                 try clear q701
                 try clear q702
                 try clear q710
                 try clear q719
                 obtain ⟨zbaba, rfl, HA, HK6, HO_5, HO_6, HB⟩ := hrel
                 cases gk with
                 | zero => exact absurd HA.out (by simp [stowagelaw13_ChainNewest.l1])
                 | succ k6 =>
                  have H := HA.out
                  clear HA
                  simp only [stowagelaw13_ChainNewest.l1] at H
                  by_cases c60 : zbaba < (zbaas.length : Int)
                  ·as_aux_lemma =>
                   rw [if_pos c60] at H
                   have c60b0 : decide (zbaba < (zbaas.length : Int)) = true := decide_eq_true c60
                   clear c60
                   by_cases c61 : 0 ≤ zbaba
                   ·as_aux_lemma =>
                    rw [if_pos c61] at H
                    have c61b0 : decide (0 ≤ zbaba) = true := decide_eq_true c61
                    clear c61
                    replace H := Option.bind_eq_some_iff.mp H
                    obtain ⟨⟨t729, t730, t731, t732, t733, t736⟩, A620, H⟩ := H
                    replace H : (if t736 = 0 then ((stowagelaw13_Ref.f k6 t729 t730 t731 t732 t733).bind fun bt738 => ((stowageref13_Same.f k6 bt738.1 bt738.2.1 bt738.2.2.1 bt738.2.2.2.1 bt738.2.2.2.2 ((rd_T36 zbaas zbaba).f0) ((rd_T36 zbaas zbaba).f1) ((rd_T36 zbaas zbaba).f2) ((rd_T36 zbaas zbaba).f3) ((rd_T36 zbaas zbaba).f4)).bind fun t746 => (if t746 = true then (stowagelaw13_ChainNewest.l1 k6 l0 l1 zbabb zbaas zbaau (wrap64 (zbaba + 1))) else (some false)))) else (some false)) = some r := H
                    have A62 := zbaaq A620
                    clear A620
                    by_cases c63 : t736 = 0
                    ·as_aux_lemma =>
                     rw [if_pos c63] at H
                     have c63b0 : (t736 == 0) = true := beq_iff_eq.mpr c63
                     have c63b1 : (t736 != 0) = false := bne_eq_false_iff_eq.mpr c63
                     clear c63
                     replace H := Option.bind_eq_some_iff.mp H
                     obtain ⟨⟨t738, t739, t740, t741, t742⟩, A640, H⟩ := H
                     replace H : ((stowageref13_Same.f k6 t738 t739 t740 t741 t742 ((rd_T36 zbaas zbaba).f0) ((rd_T36 zbaas zbaba).f1) ((rd_T36 zbaas zbaba).f2) ((rd_T36 zbaas zbaba).f3) ((rd_T36 zbaas zbaba).f4)).bind fun t746 => (if t746 = true then (stowagelaw13_ChainNewest.l1 k6 l0 l1 zbabb zbaas zbaau (wrap64 (zbaba + 1))) else (some false))) = some r := H
                     have A64 := zbaaq A640
                     clear A640
                     replace H := Option.bind_eq_some_iff.mp H
                     obtain ⟨t746, A650, H⟩ := H
                     replace H : (if t746 = true then (stowagelaw13_ChainNewest.l1 k6 l0 l1 zbabb zbaas zbaau (wrap64 (zbaba + 1))) else (some false)) = some r := H
                     have A65 := zbaaq A650
                     clear A650
                     by_cases c66 : t746 = true
                     ·as_aux_lemma =>
                      subst c66
                      have H1 : (stowagelaw13_ChainNewest.l1 k6 l0 l1 zbabb zbaas zbaau (wrap64 (zbaba + 1))) = some r := by rw [if_pos rfl] at H; exact H
                      clear H
                      have H := H1
                      clear H1
                      have H' := zbaaq H
                      clear H
                      have p728 : 0 ≤ (zbaba : Int) := of_decide_eq_true (by first | (with_reducible assumption) | assumption)
                      have q728 : zbaba < (zbaas.length : Int) := of_decide_eq_true (by first | (with_reducible assumption) | assumption)
                      obtain ⟨ad728, A728_4, c728_4, e728, hx728_0, hx728_1, hx728_2, hx728_3, hx728_4, hl728_4, hi728_4⟩ := at_T36 (Kd.N_reads' HO_6.out).2.2 zbaba p728 q728
                      cases e728
                      obtain ⟨ce728, hce728, hMe728, hcc728⟩ := Kd.N_get HO_6.out z36 zbaba p728 (by first | exact q728 | exact of_decide_eq_true (by first | (with_reducible assumption) | assumption) | (have e_ := (Kd.N_reads' HO_6.out).1; omega))
                      obtain ⟨ua728_4, uc728_4, rfl, ul728_4, ge728_4⟩ := k36_openF hMe728
                      have hv728_4 := hcc728 4 _ rfl
                      rw [add_field _ _ 4 (by omega)] at hv728_4
                      replace hv728_4 := Option.some.inj (hv728_4.symm.trans hx728_4)
                      injection hv728_4 with hva_ hvn_ hvc_
                      rw [hva_] at ge728_4
                      rw [hvc_] at ul728_4
                      have HL728_4 := zbaaq (show Kd.V k74 74 _ w.heap.size _ _ ((rd_T36 zbaas zbaba).f4) from Kd.V_mk ul728_4 ge728_4)
                      clear hva_ hvn_ hvc_ ge728_4 ul728_4
                      clear hcc728 hce728
                      have HR728_4 := zbaaq hi728_4
                      have HC728_4 := zbaaq hl728_4
                      clear hi728_4 hl728_4
                      replace p728 := eq_true p728
                      replace q728 := eq_true q728
                      try go_wp2_with (first | ((with_reducible refine gate_callee (f := 22) rfl ?_); refine goesL_ (some 123) rfl rfl Try.func22 (by kernel_rfl) rfl #[.slice Ao58 zbabb.length co58, .int .i64 ((rd_T36 zbaas zbaba).f0)] rfl (by (try simp only [zbaan, zbaao, zbaap]); first | done | rfl) ?_; (with_reducible refine (chain_Find.calls k6 _ _ zbabb ((rd_T36 zbaas zbaba).f0) t729 t730 t731 t732 t733 t736 _ ?side1 ?side2 A62.out).mono ?_); (case side1 => repeat (first | exact (Kd.V_reads' HO_5.out).2.2 | (with_reducible refine Kd.C_alloc ?_ _) | (with_reducible refine Kd.C_drewN ?_ _) | (with_reducible refine Kd.C_drew ?_))); (case side2 => exact (Kd.V_reads' HO_5.out).2.1); rintro e w67 ⟨v734, rfl, ho0, hb⟩; refine ⟨_, rfl, ?_⟩; have n0_ := zbaaq (Kd.V_elder' (by (with_reducible repeat (first | apply Kd.V_alloc | apply Kd.V_drewN | apply Kd.V_drew)); exact HO_5.out) (Kd.R_base ho0) hb); have n1_ := zbaaq (Kd.N_elder' (by (with_reducible repeat (first | apply Kd.N_alloc | apply Kd.N_drewN | apply Kd.N_drew)); exact HO_6.out) (Kd.R_base ho0) hb); have n2_ := zbaaq (Kd.V_elder' (by (with_reducible repeat (first | apply Kd.V_alloc | apply Kd.V_drewN | apply Kd.V_drew)); exact HL728_4.out) (Kd.R_base ho0) hb); have n3_ := zbaaq (Kd.R_lower ho0 (below_size (by repeat (first | (with_reducible first | exact HB.out | apply zbaak | apply zbaai | apply zbaaj) | exact HB.out)))); have n4_ := zbaaq (Kd.C_below (by repeat (first | (with_reducible exact HR728_4.out) | (with_reducible refine Kd.C_alloc ?_ _) | (with_reducible refine Kd.C_drewN ?_ _) | (with_reducible refine Kd.C_drew ?_) | exact HR728_4.out)) hb); have n5_ := zbaaq (below_step (by repeat (first | (with_reducible first | exact HB.out | apply zbaak | apply zbaai | apply zbaaj) | exact HB.out)) hb); clear HO_5; clear HO_6; clear HL728_4; clear HR728_4; clear HB; have HO_5 := n0_; have HO_6 := n1_; have HL728_4 := n2_; have HO735 := n3_; have HR728_4 := n4_; have HB := n5_; clear n0_ n1_ n2_ n3_ n4_ n5_; (try clear hb); (try clear hk); (try clear hi); (try clear ho0)) | ((with_reducible refine gate_dst (N := 11) rfl ?_); (try (refine gate_guard (by rfl) ?_; dsimp only)); refine box_event ?hg (N := 11) ?hd (cs := #[.int .i64 0, .bool false, .int .i64 0, .string (⟨#[]⟩ : ByteArray), .slice none 0 0]) (t := 24) ?hr ?_; (case hd => rfl); (case hg => rfl); (case hr => first | (go_simp; done) | (go_simp; rfl)); intro zbaax hg w68 hbox hb; have n0_ := zbaaq (Kd.V_below (Kd.V_elderB (by (with_reducible repeat (first | apply Kd.V_alloc | apply Kd.V_drewN | apply Kd.V_drew)); exact HO_5.out) zbaax (Nat.le_of_eq hg.symm)) hb); have n1_ := zbaaq (Kd.N_below (Kd.N_elderB (by (with_reducible repeat (first | apply Kd.N_alloc | apply Kd.N_drewN | apply Kd.N_drew)); exact HO_6.out) zbaax (Nat.le_of_eq hg.symm)) hb); have n2_ := zbaaq (Kd.V_below (Kd.V_elderB (by (with_reducible repeat (first | apply Kd.V_alloc | apply Kd.V_drewN | apply Kd.V_drew)); exact HL728_4.out) zbaax (Nat.le_of_eq hg.symm)) hb); have n3_ := zbaaq (Kd.R_below (by (with_reducible repeat (first | apply Kd.R_alloc | apply Kd.R_drewN | apply Kd.R_drew)); exact HO735.out) hb); have n4_ := zbaaq (Kd.C_below (by repeat (first | (with_reducible exact HR728_4.out) | (with_reducible refine Kd.C_alloc ?_ _) | (with_reducible refine Kd.C_drewN ?_ _) | (with_reducible refine Kd.C_drew ?_) | exact HR728_4.out)) hb); have n5_ := zbaaq (below_step (by repeat (first | (with_reducible first | exact HB.out | apply zbaak | apply zbaai | apply zbaaj) | exact HB.out)) hb); have n6_ := zbaaq (hbox); have n7_ := zbaaq ((by rw [hg]; exact (below_size (by repeat (first | (with_reducible first | exact HB.out | apply zbaak | apply zbaai | apply zbaaj) | exact HB.out))) : w.heap.size ≤ zbaax)); have n8_ := zbaaq ((by rw [hg]; exact (below_size (by repeat (first | (with_reducible first | exact HB.out | apply zbaak | apply zbaai | apply zbaaj) | exact HB.out))) : w.heap.size ≤ zbaax)); clear HO_5; clear HO_6; clear HL728_4; clear HO735; clear HR728_4; clear HB; have HO_5 := n0_; have HO_6 := n1_; have HL728_4 := n2_; have HO735 := n3_; have HR728_4 := n4_; have HB := n5_; have zbabc := n6_; have zbadx := n7_; have zbabl := n8_; clear n0_ n1_ n2_ n3_ n4_ n5_ n6_ n7_ n8_; clear hb hbox hg; have zbadd : w68.cell? ⟨zbaax, 0, none⟩ = some (.int .i64 0) := (zbaal zbabc.out 0).trans rfl; have zbade : w68.cell? ⟨zbaax, 1, none⟩ = some (.bool false) := (zbaal zbabc.out 1).trans rfl; have zbadf : w68.cell? ⟨zbaax, 2, none⟩ = some (.int .i64 0) := (zbaal zbabc.out 2).trans rfl; have zbadg : w68.cell? ⟨zbaax, 3, none⟩ = some (.string (⟨#[]⟩ : ByteArray)) := (zbaal zbabc.out 3).trans rfl; have zbadh : w68.cell? ⟨zbaax, 4, none⟩ = some (.slice none 0 0) := (zbaal zbabc.out 4).trans rfl; have zbadi := zbaam zbabc.out 0; have zbadj := zbaam zbabc.out 1; have zbadk := zbaam zbabc.out 2; have zbadl := zbaam zbabc.out 3; have zbadm := zbaam zbabc.out 4; obtain ⟨Ao70, co70, eo70⟩ := Kd.R_slice HO735.out; subst eo70))
                      have n0_ : Aside0 (Kd.V k24 24 (((((w68.setCell ⟨zbaax, 0, none⟩ (.int .i64 t729)).setCell ⟨zbaax, 1, none⟩ (.bool t730)).setCell ⟨zbaax, 2, none⟩ (.int .i64 t731)).setCell ⟨zbaax, 3, none⟩ (.string t732)).setCell ⟨zbaax, 4, none⟩ (.slice Ao70 t733.length co70)) w.heap.size (fun k_ => some k_ ≠ (.slice (some ad728) zbaas.length co59 : Value).ownBlock ∧ some k_ ≠ (.slice Ao70 t733.length co70 : Value).ownBlock ∧ k_ ≠ zbaax) (.slice Ao58 zbabb.length co58) zbabb) := ⟨by (with_reducible repeat (first | apply Kd.V_alloc | apply Kd.V_drewN | apply Kd.V_drew)); exact Kd.V_mono (Kd.V_far (p := ⟨zbaax, 4, none⟩) (Kd.V_far (p := ⟨zbaax, 3, none⟩) (Kd.V_far (p := ⟨zbaax, 2, none⟩) (Kd.V_far (p := ⟨zbaax, 1, none⟩) (Kd.V_far (p := ⟨zbaax, 0, none⟩) (Kd.V_mono HO_5.out (fun k_ hk => (⟨hk, hk.2⟩ : _ ∧ k_ ≠ zbaax))) (fun _ hk => hk.2) (.int .i64 t729)) (fun _ hk => hk.2) (.bool t730)) (fun _ hk => hk.2) (.int .i64 t731)) (fun _ hk => hk.2) (.string t732)) (fun _ hk => hk.2) (.slice Ao70 t733.length co70)) (fun _ hk => ⟨hk.1.1.1, ⟨hk.1.1.2, hk.1.2⟩⟩)⟩
                      have n1_ : Aside0 (Kd.N k36 36 (((((w68.setCell ⟨zbaax, 0, none⟩ (.int .i64 t729)).setCell ⟨zbaax, 1, none⟩ (.bool t730)).setCell ⟨zbaax, 2, none⟩ (.int .i64 t731)).setCell ⟨zbaax, 3, none⟩ (.string t732)).setCell ⟨zbaax, 4, none⟩ (.slice Ao70 t733.length co70)) w.heap.size (fun k_ => some k_ ≠ (.slice Ao70 t733.length co70 : Value).ownBlock ∧ k_ ≠ zbaax) (.slice (some ad728) zbaas.length co59) zbaas) := ⟨by (with_reducible repeat (first | apply Kd.N_alloc | apply Kd.N_drewN | apply Kd.N_drew)); exact Kd.N_mono (Kd.N_far (p := ⟨zbaax, 4, none⟩) (Kd.N_far (p := ⟨zbaax, 3, none⟩) (Kd.N_far (p := ⟨zbaax, 2, none⟩) (Kd.N_far (p := ⟨zbaax, 1, none⟩) (Kd.N_far (p := ⟨zbaax, 0, none⟩) (Kd.N_mono HO_6.out (fun k_ hk => (⟨hk, hk.2⟩ : _ ∧ k_ ≠ zbaax))) (fun _ hk => hk.2) (.int .i64 t729)) (fun _ hk => hk.2) (.bool t730)) (fun _ hk => hk.2) (.int .i64 t731)) (fun _ hk => hk.2) (.string t732)) (fun _ hk => hk.2) (.slice Ao70 t733.length co70)) (fun _ hk => ⟨hk.1.1.2, hk.1.2⟩)⟩
                      have n2_ : Aside0 (Kd.V k74 74 (((((w68.setCell ⟨zbaax, 0, none⟩ (.int .i64 t729)).setCell ⟨zbaax, 1, none⟩ (.bool t730)).setCell ⟨zbaax, 2, none⟩ (.int .i64 t731)).setCell ⟨zbaax, 3, none⟩ (.string t732)).setCell ⟨zbaax, 4, none⟩ (.slice Ao70 t733.length co70)) w.heap.size (fun k_ => some k_ ≠ (.slice (some ad728) zbaas.length co59 : Value).ownBlock ∧ some k_ ≠ (.slice Ao70 t733.length co70 : Value).ownBlock ∧ k_ ≠ zbaax) (.slice A728_4 ((rd_T36 zbaas zbaba).f4).length c728_4) ((rd_T36 zbaas zbaba).f4)) := ⟨by (with_reducible repeat (first | apply Kd.V_alloc | apply Kd.V_drewN | apply Kd.V_drew)); exact Kd.V_mono (Kd.V_far (p := ⟨zbaax, 4, none⟩) (Kd.V_far (p := ⟨zbaax, 3, none⟩) (Kd.V_far (p := ⟨zbaax, 2, none⟩) (Kd.V_far (p := ⟨zbaax, 1, none⟩) (Kd.V_far (p := ⟨zbaax, 0, none⟩) (Kd.V_mono HL728_4.out (fun k_ hk => (⟨hk, hk.2⟩ : _ ∧ k_ ≠ zbaax))) (fun _ hk => hk.2) (.int .i64 t729)) (fun _ hk => hk.2) (.bool t730)) (fun _ hk => hk.2) (.int .i64 t731)) (fun _ hk => hk.2) (.string t732)) (fun _ hk => hk.2) (.slice Ao70 t733.length co70)) (fun _ hk => ⟨hk.1.1.1.2, ⟨hk.1.1.2, hk.1.2⟩⟩)⟩
                      have n3_ : Aside0 (Kd.R k72 72 (((((w68.setCell ⟨zbaax, 0, none⟩ (.int .i64 t729)).setCell ⟨zbaax, 1, none⟩ (.bool t730)).setCell ⟨zbaax, 2, none⟩ (.int .i64 t731)).setCell ⟨zbaax, 3, none⟩ (.string t732)).setCell ⟨zbaax, 4, none⟩ (.slice Ao70 t733.length co70)) w.heap.size (fun _ => True) (.slice Ao70 t733.length co70) t733) := ⟨by (with_reducible repeat (first | apply Kd.R_alloc | apply Kd.R_drewN | apply Kd.R_drew)); exact Kd.R_mono (Kd.R_far (p := ⟨zbaax, 4, none⟩) (Kd.R_far (p := ⟨zbaax, 3, none⟩) (Kd.R_far (p := ⟨zbaax, 2, none⟩) (Kd.R_far (p := ⟨zbaax, 1, none⟩) (Kd.R_far (p := ⟨zbaax, 0, none⟩) (Kd.R_types HO735.out zbabc.out (by decide)) (fun _ hk => hk.2) (.int .i64 t729)) (fun _ hk => hk.2) (.bool t730)) (fun _ hk => hk.2) (.int .i64 t731)) (fun _ hk => hk.2) (.string t732)) (fun _ hk => hk.2) (.slice Ao70 t733.length co70)) (fun _ hk => trivial)⟩
                      have n4_ : Aside0 ((((((w68.setCell ⟨zbaax, 0, none⟩ (.int .i64 t729)).setCell ⟨zbaax, 1, none⟩ (.bool t730)).setCell ⟨zbaax, 2, none⟩ (.int .i64 t731)).setCell ⟨zbaax, 3, none⟩ (.string t732)).setCell ⟨zbaax, 4, none⟩ (.slice Ao70 t733.length co70)).heap[zbaax]? = some (.cells #[.int .i64 t729, .bool t730, .int .i64 t731, .string t732, .slice Ao70 t733.length co70] 24 (0, 0))) := ⟨by (with_reducible repeat (first | refine zbaae ?_ _ | refine zbaag ?_ | refine zbaaf ?_ _)); refine blk_put (cs := #[.int .i64 t729, .bool t730, .int .i64 t731, .string t732, .slice none 0 0]) ?_ 4 _ rfl; (with_reducible repeat (first | refine zbaae ?_ _ | refine zbaag ?_ | refine zbaaf ?_ _)); refine blk_put (cs := #[.int .i64 t729, .bool t730, .int .i64 t731, .string (⟨#[]⟩ : ByteArray), .slice none 0 0]) ?_ 3 _ rfl; (with_reducible repeat (first | refine zbaae ?_ _ | refine zbaag ?_ | refine zbaaf ?_ _)); refine blk_put (cs := #[.int .i64 t729, .bool t730, .int .i64 0, .string (⟨#[]⟩ : ByteArray), .slice none 0 0]) ?_ 2 _ rfl; (with_reducible repeat (first | refine zbaae ?_ _ | refine zbaag ?_ | refine zbaaf ?_ _)); refine blk_put (cs := #[.int .i64 t729, .bool false, .int .i64 0, .string (⟨#[]⟩ : ByteArray), .slice none 0 0]) ?_ 1 _ rfl; (with_reducible repeat (first | refine zbaae ?_ _ | refine zbaag ?_ | refine zbaaf ?_ _)); refine blk_put (cs := #[.int .i64 0, .bool false, .int .i64 0, .string (⟨#[]⟩ : ByteArray), .slice none 0 0]) ?_ 0 _ rfl; (with_reducible repeat (first | refine zbaae ?_ _ | refine zbaag ?_ | refine zbaaf ?_ _)); exact zbabc.out⟩
                      have n5_ : Aside0 (Below w.heap.size w (((((w68.setCell ⟨zbaax, 0, none⟩ (.int .i64 t729)).setCell ⟨zbaax, 1, none⟩ (.bool t730)).setCell ⟨zbaax, 2, none⟩ (.int .i64 t731)).setCell ⟨zbaax, 3, none⟩ (.string t732)).setCell ⟨zbaax, 4, none⟩ (.slice Ao70 t733.length co70))) := ⟨by repeat (first | (with_reducible first | exact HB.out | apply zbaak | apply zbaai | apply zbaaj | refine zbaah ?_ zbabl.out) | exact HB.out)⟩
                      (try clear HO_5)
                      (try clear HO_6)
                      (try clear HL728_4)
                      (try clear HO735)
                      (try clear zbabc)
                      (try clear HB)
                      generalize (((((w68.setCell ⟨zbaax, 0, none⟩ (.int .i64 t729)).setCell ⟨zbaax, 1, none⟩ (.bool t730)).setCell ⟨zbaax, 2, none⟩ (.int .i64 t731)).setCell ⟨zbaax, 3, none⟩ (.string t732)).setCell ⟨zbaax, 4, none⟩ (.slice Ao70 t733.length co70)) = w71 at n0_ n1_ n2_ n3_ n4_ n5_ ⊢
                      have HO_5 := n0_
                      have HO_6 := n1_
                      have HL728_4 := n2_
                      have HO735 := n3_
                      have zbabc := n4_
                      have HB := n5_
                      clear n0_ n1_ n2_ n3_ n4_ n5_
                      have n0_ := zbaaq (Kd.V_drew HO_5.out)
                      have n1_ := zbaaq (Kd.N_drew HO_6.out)
                      have n2_ := zbaaq (Kd.V_drew HL728_4.out)
                      have n3_ := zbaaq (Kd.R_drew HO735.out)
                      have n4_ := zbaaq (zbaag zbabc.out)
                      have n5_ := zbaaq (zbaaj HB.out)
                      clear HO_5
                      clear HO_6
                      clear HL728_4
                      clear HO735
                      clear zbabc
                      clear HB
                      have HO_5 := n0_
                      have HO_6 := n1_
                      have HL728_4 := n2_
                      have HO735 := n3_
                      have zbabc := n4_
                      have HB := n5_
                      clear n0_ n1_ n2_ n3_ n4_ n5_
                      have p745 : 0 ≤ (zbaba : Int) := of_decide_eq_true (by first | (with_reducible assumption) | assumption)
                      have q745 : zbaba < (zbaas.length : Int) := of_decide_eq_true (by first | (with_reducible assumption) | assumption)
                      obtain ⟨ad745, A745_4, c745_4, e745, hx745_0, hx745_1, hx745_2, hx745_3, hx745_4, hl745_4, hi745_4⟩ := at_T36 (Kd.N_reads' HO_6.out).2.2 zbaba p745 q745
                      obtain rfl : ad728 = ad745 := (by injection e745)
                      obtain ⟨ce745, hce745, hMe745, hcc745⟩ := Kd.N_get HO_6.out z36 zbaba p745 (by first | exact q745 | exact of_decide_eq_true (by first | (with_reducible assumption) | assumption) | (have e_ := (Kd.N_reads' HO_6.out).1; omega))
                      obtain ⟨ua745_4, uc745_4, rfl, ul745_4, ge745_4⟩ := k36_openF hMe745
                      have hv745_4 := hcc745 4 _ rfl
                      rw [add_field _ _ 4 (by omega)] at hv745_4
                      replace hv745_4 := Option.some.inj (hv745_4.symm.trans hx745_4)
                      injection hv745_4 with hva_ hvn_ hvc_
                      rw [hva_] at ge745_4
                      rw [hvc_] at ul745_4
                      have HL745_4 := zbaaq (show Kd.V k74 74 _ w.heap.size _ _ ((rd_T36 zbaas zbaba).f4) from Kd.V_mk ul745_4 ge745_4)
                      clear hva_ hvn_ hvc_ ge745_4 ul745_4
                      clear hcc745 hce745
                      have HR745_4 := zbaaq hi745_4
                      have HC745_4 := zbaaq hl745_4
                      clear hi745_4 hl745_4
                      replace p745 := eq_true p745
                      replace q745 := eq_true q745
                      refine start_ (n := 12) (S := fun w' => w'.cell? ⟨zbaax, 0, none⟩ = some (.int .i64 t729) ∧ w'.cell? ⟨zbaax, 1, none⟩ = some (.bool t730) ∧ w'.cell? ⟨zbaax, 2, none⟩ = some (.int .i64 t731) ∧ w'.cell? ⟨zbaax, 3, none⟩ = some (.string t732) ∧ w'.cell? ⟨zbaax, 4, none⟩ = some (.slice Ao70 t733.length co70) ∧ w'.cell? (ad728.add ((zbaba).toNat * 5)) = some (.int .i64 ((rd_T36 zbaas zbaba).f0)) ∧ w'.cell? ⟨(ad728.add ((zbaba).toNat * 5)).block, (ad728.add ((zbaba).toNat * 5)).off + 1, none⟩ = some (.bool ((rd_T36 zbaas zbaba).f1)) ∧ w'.cell? ⟨(ad728.add ((zbaba).toNat * 5)).block, (ad728.add ((zbaba).toNat * 5)).off + 2, none⟩ = some (.int .i64 ((rd_T36 zbaas zbaba).f2)) ∧ w'.cell? ⟨(ad728.add ((zbaba).toNat * 5)).block, (ad728.add ((zbaba).toNat * 5)).off + 3, none⟩ = some (.string ((rd_T36 zbaas zbaba).f3)) ∧ w'.cell? ⟨(ad728.add ((zbaba).toNat * 5)).block, (ad728.add ((zbaba).toNat * 5)).off + 4, none⟩ = some (.slice A745_4 ((rd_T36 zbaas zbaba).f4).length c745_4)) (ds := []) zbasq18 (by kernel_rfl) rfl rfl ⟨(zbaal zbabc.out 0).trans rfl, (zbaal zbabc.out 1).trans rfl, (zbaal zbabc.out 2).trans rfl, (zbaal zbabc.out 3).trans rfl, (zbaal zbabc.out 4).trans rfl, hx745_0, hx745_1, hx745_2, hx745_3, hx745_4⟩ (fun hHeld => ?_); refine with_tabW stowagelaw13_ChainNewest.tab24 stowagelaw13_ChainNewest.bits24 (fun HT_ HW_ => ?_)
                      generalize w71.drew = w72 at HO_5 HO_6 HL728_4 HO735 zbabc HB HL745_4 HR745_4 hx745_0 hx745_1 hx745_2 hx745_3 hx745_4 hHeld ⊢
                      refine pure_ (i := 0) (N := some 126) (v := ?_) (a' := ?_) zbasq19 rfl rfl (any_of HT_.out (by kernel_rfl)) (fun _ _ _ h => h) (Or.inl ⟨by rfl, ?_⟩) ?_ ?_
                      rotate_left
                      ·intro w'
                       go_simp
                       with_reducible rfl
                      rotate_left
                      ·simp only [Act.put, zbaaa, zbaab, zbaac, i64_w, i32_w]
                       rfl
                      refine pure_ (i := 1) (N := some 127) (v := ?_) (a' := ?_) zbasq20 rfl rfl (any_of HT_.out (by kernel_rfl)) (fun _ _ _ h => h) (Or.inl ⟨by rfl, ?_⟩) ?_ ?_
                      rotate_left
                      ·intro w'
                       go_simp
                       with_reducible rfl
                      rotate_left
                      ·simp only [Act.put, zbaaa, zbaab, zbaac, i64_w, i32_w]
                       rfl
                      refine pure_ (i := 2) (N := some 128) (v := ?_) (a' := ?_) zbasq21 rfl rfl (any_of HT_.out (by kernel_rfl)) (fun _ _ _ h => h) (Or.inl ⟨by rfl, ?_⟩) ?_ ?_
                      rotate_left
                      ·intro w'
                       go_simp
                       with_reducible rfl
                      rotate_left
                      ·simp only [Act.put, zbaaa, zbaab, zbaac, i64_w, i32_w]
                       rfl
                      refine pure_ (i := 5) (N := some 131) (v := ?_) (a' := ?_) zbasq22 rfl rfl (any_of HT_.out (by kernel_rfl)) (fun _ _ _ h => h) (Or.inl ⟨by rfl, ?_⟩) ?_ ?_
                      rotate_left
                      ·intro w'
                       go_simp
                       with_reducible rfl
                      rotate_left
                      ·simp only [Act.put, zbaaa, zbaab, zbaac, i64_w, i32_w]
                       rfl
                      refine pure_ (i := 6) (N := some 132) (v := ?_) (a' := ?_) zbasq23 rfl rfl (any_of HT_.out (by kernel_rfl)) (fun _ _ _ h => h) (Or.inl ⟨by rfl, ?_⟩) ?_ ?_
                      rotate_left
                      ·intro w'
                       go_simp
                       with_reducible rfl
                      rotate_left
                      ·simp only [Act.put, zbaaa, zbaab, zbaac, i64_w, i32_w]
                       rfl
                      refine pure_ (i := 7) (N := some 133) (v := ?_) (a' := ?_) zbasq24 rfl rfl (any_of HT_.out (by kernel_rfl)) (fun _ _ _ h => h) (Or.inl ⟨by rfl, ?_⟩) ?_ ?_
                      rotate_left
                      ·intro w'
                       go_simp
                       with_reducible rfl
                      rotate_left
                      ·simp only [Act.put, zbaaa, zbaab, zbaac, i64_w, i32_w]
                       rfl
                      refine take_ (i := 3) (N := some 129) (v := ?_) (a' := ?_) zbasq25 rfl rfl (take_ofW HT_.out HW_.out (by kernel_rfl)) (fun _ _ _ h => h) (Or.inl ⟨by rfl, ?_⟩) hHeld ?_ ?_
                      rotate_left
                      ·rintro w' ⟨s0, s1, s2, s3, s4, s5, s6, s7, s8, s9⟩
                       go_simp
                       with_reducible rfl
                      rotate_left
                      ·simp only [Act.put, zbaaa, zbaab, zbaac, i64_w, i32_w]
                       rfl
                      refine take_ (i := 8) (N := some 134) (v := ?_) (a' := ?_) zbasq26 rfl rfl (take_ofW HT_.out HW_.out (by kernel_rfl)) (fun _ _ _ h => h) (Or.inl ⟨by rfl, ?_⟩) hHeld ?_ ?_
                      rotate_left
                      ·rintro w' ⟨s0, s1, s2, s3, s4, s5, s6, s7, s8, s9⟩
                       go_simp
                       with_reducible rfl
                      rotate_left
                      ·simp only [Act.put, zbaaa, zbaab, zbaac, i64_w, i32_w]
                       rfl
                      refine one_ (i := 4) (N := some 130) zbasq27 rfl rfl (one_of HT_.out (by kernel_rfl)) (by decide) (fun K hK => ?_)
                      refine goes_ Try.func15 (by kernel_rfl) rfl #[.agg #[.int .i64 t729, .bool t730, .int .i64 t731, .string t732, .slice Ao70 t733.length co70]] (by rfl) rfl rfl (by (try simp only [zbaan, zbaao, zbaap]); first | done | rfl) ?_
                      with_reducible refine (stowagelaw13_Ref.calls k6 t729 t730 t731 t732 _ _ t733 t738 t739 t740 t741 t742 _ ?side1 ?side2 A64.out).mono ?_
                      (case side1 => repeat (first | exact (Kd.R_reads' HO735.out).2.2 | (with_reducible refine Kd.C_alloc ?_ _) | (with_reducible refine Kd.C_drewN ?_ _) | (with_reducible refine Kd.C_drew ?_)))
                      (case side2 => exact (Kd.R_reads' HO735.out).2.1)
                      rintro e w73 ⟨v743, rfl, ho0, hb⟩
                      have HS5_ := (hb.cell (zbaad _ _ (hHeld.2.2.2.2.2.1))).trans (hHeld.2.2.2.2.2.1)
                      have HS6_ := (hb.cell (zbaad _ _ (hHeld.2.2.2.2.2.2.1))).trans (hHeld.2.2.2.2.2.2.1)
                      have HS7_ := (hb.cell (zbaad _ _ (hHeld.2.2.2.2.2.2.2.1))).trans (hHeld.2.2.2.2.2.2.2.1)
                      have HS8_ := (hb.cell (zbaad _ _ (hHeld.2.2.2.2.2.2.2.2.1))).trans (hHeld.2.2.2.2.2.2.2.2.1)
                      have HS9_ := (hb.cell (zbaad _ _ (hHeld.2.2.2.2.2.2.2.2.2))).trans (hHeld.2.2.2.2.2.2.2.2.2)
                      refine ⟨_, rfl, ?_⟩
                      have n0_ := zbaaq (Kd.V_elder' (by (with_reducible repeat (first | apply Kd.V_alloc | apply Kd.V_drewN | apply Kd.V_drew)); exact HO_5.out) (Kd.R_base ho0) hb)
                      have n1_ := zbaaq (Kd.N_elder' (by (with_reducible repeat (first | apply Kd.N_alloc | apply Kd.N_drewN | apply Kd.N_drew)); exact HO_6.out) (Kd.R_base ho0) hb)
                      have n2_ := zbaaq (Kd.V_elder' (by (with_reducible repeat (first | apply Kd.V_alloc | apply Kd.V_drewN | apply Kd.V_drew)); exact HL728_4.out) (Kd.R_base ho0) hb)
                      have n3_ := zbaaq (Kd.R_below (by (with_reducible repeat (first | apply Kd.R_alloc | apply Kd.R_drewN | apply Kd.R_drew)); exact HO735.out) hb)
                      have n4_ := zbaaq (Kd.V_elder' (by (with_reducible repeat (first | apply Kd.V_alloc | apply Kd.V_drewN | apply Kd.V_drew)); exact HL745_4.out) (Kd.R_base ho0) hb)
                      have n5_ := zbaaq (Kd.R_lower ho0 (below_size (by repeat (first | (with_reducible first | exact HB.out | apply zbaak | apply zbaai | apply zbaaj | refine zbaah ?_ zbabl.out) | exact HB.out))))
                      have n6_ := zbaaq (blk_below (g := zbaax) (o := .cells #[.int .i64 t729, .bool t730, .int .i64 t731, .string t732, .slice Ao70 t733.length co70] 24 (0, 0)) (by (with_reducible repeat (first | refine zbaae ?_ _ | refine zbaag ?_ | refine zbaaf ?_ _)); exact zbabc.out) hb)
                      have n7_ := zbaaq (Kd.C_below (by repeat (first | (with_reducible exact HR745_4.out) | (with_reducible refine Kd.C_alloc ?_ _) | (with_reducible refine Kd.C_drewN ?_ _) | (with_reducible refine Kd.C_drew ?_) | exact HR745_4.out)) hb)
                      have n8_ := zbaaq (below_step (by repeat (first | (with_reducible first | exact HB.out | apply zbaak | apply zbaai | apply zbaaj | refine zbaah ?_ zbabl.out) | exact HB.out)) hb)
                      clear HO_5
                      clear HO_6
                      clear HL728_4
                      clear HO735
                      clear HL745_4
                      clear zbabc
                      clear HR745_4
                      clear HB
                      have HO_5 := n0_
                      have HO_6 := n1_
                      have HL728_4 := n2_
                      have HO735 := n3_
                      have HL745_4 := n4_
                      have HO744 := n5_
                      have zbabc := n6_
                      have HR745_4 := n7_
                      have HB := n8_
                      clear n0_ n1_ n2_ n3_ n4_ n5_ n6_ n7_ n8_
                      (try clear hb)
                      (try clear hb2)
                      (try clear hk)
                      (try clear hi)
                      (try clear ho0)
                      obtain ⟨Ao74, co74, eo74⟩ := Kd.R_slice HO744.out
                      (first | subst eo74 | (injection eo74 with f1_ f2_ f3_; have f4_ := f1_.symm; have f5_ := f3_.symm; clear f1_ f2_ f3_; subst f4_; subst f5_))
                      refine hK.out _ _ ⟨(zbaal zbabc.out 0).trans rfl, (zbaal zbabc.out 1).trans rfl, (zbaal zbabc.out 2).trans rfl, (zbaal zbabc.out 3).trans rfl, (zbaal zbabc.out 4).trans rfl, HS5_, HS6_, HS7_, HS8_, HS9_⟩ (fun hHeld => ?_)
                      clear hK K
                      refine norm_ (a' := ?_) ?_ ?_
                      rotate_left
                      ·show Act.put _ (some 130) _ = _
                       simp only [Act.put, zbaaa, zbaab, zbaac, i64_w, i32_w]
                       rfl
                      refine one_ (i := 9) (N := some 135) zbasq28 rfl rfl (one_of HT_.out (by kernel_rfl)) (by decide) (fun K hK => ?_)
                      refine goes_ Try.func23 (by kernel_rfl) rfl #[.agg #[.int .i64 t738, .bool t739, .int .i64 t740, .string t741, .slice Ao74 t742.length co74], .agg #[.int .i64 ((rd_T36 zbaas zbaba).f0), .bool ((rd_T36 zbaas zbaba).f1), .int .i64 ((rd_T36 zbaas zbaba).f2), .string ((rd_T36 zbaas zbaba).f3), .slice A745_4 ((rd_T36 zbaas zbaba).f4).length c745_4]] (by rfl) rfl rfl (by (try simp only [zbaan, zbaao, zbaap]); first | done | rfl) ?_
                      with_reducible refine (stowageref13_Same.calls k6 t738 t739 t740 t741 _ _ t742 ((rd_T36 zbaas zbaba).f0) ((rd_T36 zbaas zbaba).f1) ((rd_T36 zbaas zbaba).f2) ((rd_T36 zbaas zbaba).f3) _ _ ((rd_T36 zbaas zbaba).f4) true _ ?side1 ?side2 ?side3 ?side4 A65.out).mono ?_
                      (case side1 => repeat (first | exact (Kd.R_reads' HO744.out).2.2 | (with_reducible refine Kd.C_alloc ?_ _) | (with_reducible refine Kd.C_drewN ?_ _) | (with_reducible refine Kd.C_drew ?_)))
                      (case side2 => exact (Kd.R_reads' HO744.out).2.1)
                      (case side3 => repeat (first | exact (by repeat (first | (with_reducible exact HR745_4.out) | (with_reducible refine Kd.C_alloc ?_ _) | (with_reducible refine Kd.C_drewN ?_ _) | (with_reducible refine Kd.C_drew ?_) | exact HR745_4.out)) | (with_reducible refine Kd.C_alloc ?_ _) | (with_reducible refine Kd.C_drewN ?_ _) | (with_reducible refine Kd.C_drew ?_)))
                      (case side4 => exact HC745_4.out)
                      rintro e w75 ⟨rfl, hb⟩
                      have HS5_ := (hb.cell (zbaad _ _ (hHeld.2.2.2.2.2.1))).trans (hHeld.2.2.2.2.2.1)
                      have HS6_ := (hb.cell (zbaad _ _ (hHeld.2.2.2.2.2.2.1))).trans (hHeld.2.2.2.2.2.2.1)
                      have HS7_ := (hb.cell (zbaad _ _ (hHeld.2.2.2.2.2.2.2.1))).trans (hHeld.2.2.2.2.2.2.2.1)
                      have HS8_ := (hb.cell (zbaad _ _ (hHeld.2.2.2.2.2.2.2.2.1))).trans (hHeld.2.2.2.2.2.2.2.2.1)
                      have HS9_ := (hb.cell (zbaad _ _ (hHeld.2.2.2.2.2.2.2.2.2))).trans (hHeld.2.2.2.2.2.2.2.2.2)
                      refine ⟨_, rfl, ?_⟩
                      have n0_ := zbaaq (Kd.V_below (by (with_reducible repeat (first | apply Kd.V_alloc | apply Kd.V_drewN | apply Kd.V_drew)); exact HO_5.out) hb)
                      have n1_ := zbaaq (Kd.N_below (by (with_reducible repeat (first | apply Kd.N_alloc | apply Kd.N_drewN | apply Kd.N_drew)); exact HO_6.out) hb)
                      have n2_ := zbaaq (Kd.V_below (by (with_reducible repeat (first | apply Kd.V_alloc | apply Kd.V_drewN | apply Kd.V_drew)); exact HL728_4.out) hb)
                      have n3_ := zbaaq (Kd.R_below (by (with_reducible repeat (first | apply Kd.R_alloc | apply Kd.R_drewN | apply Kd.R_drew)); exact HO735.out) hb)
                      have n4_ := zbaaq (Kd.V_below (by (with_reducible repeat (first | apply Kd.V_alloc | apply Kd.V_drewN | apply Kd.V_drew)); exact HL745_4.out) hb)
                      have n5_ := zbaaq (Kd.R_below (by (with_reducible repeat (first | apply Kd.R_alloc | apply Kd.R_drewN | apply Kd.R_drew)); exact HO744.out) hb)
                      have n6_ := zbaaq (blk_below (g := zbaax) (o := .cells #[.int .i64 t729, .bool t730, .int .i64 t731, .string t732, .slice Ao70 t733.length co70] 24 (0, 0)) (by (with_reducible repeat (first | refine zbaae ?_ _ | refine zbaag ?_ | refine zbaaf ?_ _)); exact zbabc.out) hb)
                      have n7_ := zbaaq (Kd.C_below (by repeat (first | (with_reducible exact HR745_4.out) | (with_reducible refine Kd.C_alloc ?_ _) | (with_reducible refine Kd.C_drewN ?_ _) | (with_reducible refine Kd.C_drew ?_) | exact HR745_4.out)) hb)
                      have n8_ := zbaaq (below_step (by repeat (first | (with_reducible first | exact HB.out | apply zbaak | apply zbaai | apply zbaaj | refine zbaah ?_ zbabl.out) | exact HB.out)) hb)
                      clear HO_5
                      clear HO_6
                      clear HL728_4
                      clear HO735
                      clear HL745_4
                      clear HO744
                      clear zbabc
                      clear HR745_4
                      clear HB
                      have HO_5 := n0_
                      have HO_6 := n1_
                      have HL728_4 := n2_
                      have HO735 := n3_
                      have HL745_4 := n4_
                      have HO744 := n5_
                      have zbabc := n6_
                      have HR745_4 := n7_
                      have HB := n8_
                      clear n0_ n1_ n2_ n3_ n4_ n5_ n6_ n7_ n8_
                      (try clear hb)
                      (try clear hb2)
                      (try clear hk)
                      (try clear hi)
                      refine hK.out _ _ ⟨(zbaal zbabc.out 0).trans rfl, (zbaal zbabc.out 1).trans rfl, (zbaal zbabc.out 2).trans rfl, (zbaal zbabc.out 3).trans rfl, (zbaal zbabc.out 4).trans rfl, HS5_, HS6_, HS7_, HS8_, HS9_⟩ (fun hHeld => ?_)
                      clear hK K
                      refine norm_ (a' := ?_) ?_ ?_
                      rotate_left
                      ·show Act.put _ (some 135) _ = _
                       simp only [Act.put, zbaaa, zbaab, zbaac, i64_w, i32_w]
                       rfl
                      refine pure_ (i := 10) (N := some 136) (v := ?_) (a' := ?_) zbasq29 rfl rfl (any_of HT_.out (by kernel_rfl)) (fun _ _ _ h => h) (Or.inl ⟨by rfl, ?_⟩) ?_ ?_
                      rotate_left
                      ·intro w'
                       go_simp
                       with_reducible rfl
                      rotate_left
                      ·simp only [Act.put, zbaaa, zbaab, zbaac, i64_w, i32_w]
                       rfl
                      refine pure_ (i := 11) (N := some 137) (v := ?_) (a' := ?_) zbasq30 rfl rfl (any_of HT_.out (by kernel_rfl)) (fun _ _ _ h => h) (Or.inl ⟨by rfl, ?_⟩) ?_ ?_
                      rotate_left
                      ·intro w'
                       go_simp
                       with_reducible rfl
                      rotate_left
                      ·simp only [Act.put, zbaaa, zbaab, zbaac, i64_w, i32_w]
                       rfl
                      refine done_ (done_of HT_.out (by kernel_rfl)) ?_
                      try go_wp2
                      go_roundg k6
                      case measure => have := HK1.out; have := HJ5.out; have := HJ11.out; have := HJ20.out; have := HJ28.out; have := HK6.out; omega
                      case rel => exact ⟨(wrap64 (zbaba + 1)), (by first | rfl | (simp; done) | (simp [*]; done)), H', ⟨by have := HK1.out; have := HJ5.out; have := HJ11.out; have := HJ20.out; have := HJ28.out; have := HK6.out; omega⟩, ⟨by (with_reducible repeat (first | apply Kd.V_alloc | apply Kd.V_drewN | apply Kd.V_drew)); exact Kd.V_mono HO_5.out (fun _ hk => hk.1.1)⟩, ⟨by (with_reducible repeat (first | apply Kd.N_alloc | apply Kd.N_drewN | apply Kd.N_drew)); exact Kd.N_mono HO_6.out (fun _ hk => trivial)⟩, ⟨by repeat (first | (with_reducible first | exact HB.out | apply zbaak | apply zbaai | apply zbaaj | refine zbaah ?_ zbabl.out) | exact HB.out)⟩⟩
                     ·replace c66 := Bool.eq_false_iff.mpr c66
                      subst c66
                      have H1 : (some false) = some r := by rw [if_neg (show ¬ (false = true) by decide)] at H; exact H
                      clear H
                      have H := H1
                      clear H1
                      exact absurd ((Option.some.inj H).trans HTR.out) Bool.false_ne_true
                    ·rw [if_neg c63] at H
                     have c63b0 : (t736 == 0) = false := beq_eq_false_iff_ne.mpr c63
                     have c63b1 : (t736 != 0) = true := bne_iff_ne.mpr c63
                     exact absurd ((Option.some.inj H).trans HTR.out) Bool.false_ne_true
                   ·rw [if_neg c61] at H
                    exact absurd H (by simp)
                  ·as_aux_lemma =>
                   rw [if_neg c60] at H
                   have c60b0 : decide (zbaba < (zbaas.length : Int)) = false := decide_eq_false c60
                   clear c60
                   replace H := Option.bind_eq_some_iff.mp H
                   obtain ⟨⟨t747, t748, t749, t750, t751, t754⟩, A910, H⟩ := H
                   replace H : (if (zbaas.length : Int) = 0 then (if t754 = 4 then (stowagelaw13_ChainNewest.l0 k6 l0 l1 zbabb zbaas (wrap64 (zbaau + 1))) else (some false)) else (if 0 ≤ (wrap64 ((zbaas.length : Int) - 1)) then (if (wrap64 ((zbaas.length : Int) - 1)) < (zbaas.length : Int) then (if (((rd_T36 zbaas (wrap64 ((zbaas.length : Int) - 1))).f1) != (t754 == 130)) = true then (some false) else (if ((rd_T36 zbaas (wrap64 ((zbaas.length : Int) - 1))).f1 = true) then (stowagelaw13_ChainNewest.l0 k6 l0 l1 zbabb zbaas (wrap64 (zbaau + 1))) else (if t754 = 0 then ((stowagelaw13_Ref.f k6 t747 t748 t749 t750 t751).bind fun bt758 => ((stowageref13_Same.f k6 bt758.1 bt758.2.1 bt758.2.2.1 bt758.2.2.2.1 bt758.2.2.2.2 ((rd_T36 zbaas (wrap64 ((zbaas.length : Int) - 1))).f0) ((rd_T36 zbaas (wrap64 ((zbaas.length : Int) - 1))).f1) ((rd_T36 zbaas (wrap64 ((zbaas.length : Int) - 1))).f2) ((rd_T36 zbaas (wrap64 ((zbaas.length : Int) - 1))).f3) ((rd_T36 zbaas (wrap64 ((zbaas.length : Int) - 1))).f4)).bind fun t765 => (if t765 = true then (stowagelaw13_ChainNewest.l0 k6 l0 l1 zbabb zbaas (wrap64 (zbaau + 1))) else (some false)))) else (some false)))) else (none)) else (none))) = some r := H
                   have A91 := zbaaq A910
                   clear A910
                   by_cases c92 : (zbaas.length : Int) = 0
                   ·rw [if_pos c92] at H
                    have c92b0 : ((zbaas.length : Int) == 0) = true := beq_iff_eq.mpr c92
                    have c92b1 : ((zbaas.length : Int) != 0) = false := bne_eq_false_iff_eq.mpr c92
                    clear c92
                    by_cases c93 : t754 = 4
                    ·rw [if_pos c93] at H
                     have c93b0 : (t754 == 4) = true := beq_iff_eq.mpr c93
                     have c93b1 : (t754 != 4) = false := bne_eq_false_iff_eq.mpr c93
                     clear c93
                     have H' := zbaaq H
                     clear H
                     go_wp2_with (first | ((with_reducible refine gate_callee (f := 24) rfl ?_); refine goesL_ (some 140) rfl rfl Try.func24 (by kernel_rfl) rfl #[.slice Ao58 zbabb.length co58] rfl (by (try simp only [zbaan, zbaao, zbaap]); first | done | rfl) ?_; (with_reducible refine (chain_Latest.calls k6 _ _ zbabb t747 t748 t749 t750 t751 t754 _ ?side1 ?side2 A91.out).mono ?_); (case side1 => repeat (first | exact (Kd.V_reads' HO_5.out).2.2 | (with_reducible refine Kd.C_alloc ?_ _) | (with_reducible refine Kd.C_drewN ?_ _) | (with_reducible refine Kd.C_drew ?_))); (case side2 => exact (Kd.V_reads' HO_5.out).2.1); rintro e w94 ⟨v752, rfl, ho0, hb⟩; refine ⟨_, rfl, ?_⟩; have n0_ := zbaaq (Kd.V_elder' (by (with_reducible repeat (first | apply Kd.V_alloc | apply Kd.V_drewN | apply Kd.V_drew)); exact HO_5.out) (Kd.R_base ho0) hb); have n1_ := zbaaq (Kd.N_elder' (by (with_reducible repeat (first | apply Kd.N_alloc | apply Kd.N_drewN | apply Kd.N_drew)); exact HO_6.out) (Kd.R_base ho0) hb); have n2_ := zbaaq (Kd.R_lower ho0 (below_size (by repeat (first | (with_reducible first | exact HB.out | apply zbaak | apply zbaai | apply zbaaj) | exact HB.out)))); have n3_ := zbaaq (below_step (by repeat (first | (with_reducible first | exact HB.out | apply zbaak | apply zbaai | apply zbaaj) | exact HB.out)) hb); clear HO_5; clear HO_6; clear HB; have HO_5 := n0_; have HO_6 := n1_; have HO753 := n2_; have HB := n3_; clear n0_ n1_ n2_ n3_; (try clear hb); (try clear hk); (try clear hi); (try clear ho0)) | ((with_reducible refine gate_dst (N := 13) rfl ?_); (try (refine gate_guard (by rfl) ?_; dsimp only)); refine box_event ?hg (N := 13) ?hd (cs := #[.int .i64 0, .bool false, .int .i64 0, .string (⟨#[]⟩ : ByteArray), .slice none 0 0]) (t := 24) ?hr ?_; (case hd => rfl); (case hg => rfl); (case hr => first | (go_simp; done) | (go_simp; rfl)); intro zbaav hg w95 hbox hb; have n0_ := zbaaq (Kd.V_below (Kd.V_elderB (by (with_reducible repeat (first | apply Kd.V_alloc | apply Kd.V_drewN | apply Kd.V_drew)); exact HO_5.out) zbaav (Nat.le_of_eq hg.symm)) hb); have n1_ := zbaaq (Kd.N_below (Kd.N_elderB (by (with_reducible repeat (first | apply Kd.N_alloc | apply Kd.N_drewN | apply Kd.N_drew)); exact HO_6.out) zbaav (Nat.le_of_eq hg.symm)) hb); have n2_ := zbaaq (Kd.R_below (by (with_reducible repeat (first | apply Kd.R_alloc | apply Kd.R_drewN | apply Kd.R_drew)); exact HO753.out) hb); have n3_ := zbaaq (below_step (by repeat (first | (with_reducible first | exact HB.out | apply zbaak | apply zbaai | apply zbaaj) | exact HB.out)) hb); have n4_ := zbaaq (hbox); have n5_ := zbaaq ((by rw [hg]; exact (below_size (by repeat (first | (with_reducible first | exact HB.out | apply zbaak | apply zbaai | apply zbaaj) | exact HB.out))) : w.heap.size ≤ zbaav)); have n6_ := zbaaq ((by rw [hg]; exact (below_size (by repeat (first | (with_reducible first | exact HB.out | apply zbaak | apply zbaai | apply zbaaj) | exact HB.out))) : w.heap.size ≤ zbaav)); clear HO_5; clear HO_6; clear HO753; clear HB; have HO_5 := n0_; have HO_6 := n1_; have HO753 := n2_; have HB := n3_; have zbaaw := n4_; have zbabn := n5_; have zbabe := n6_; clear n0_ n1_ n2_ n3_ n4_ n5_ n6_; clear hb hbox hg; have zbadn : w95.cell? ⟨zbaav, 0, none⟩ = some (.int .i64 0) := (zbaal zbaaw.out 0).trans rfl; have zbado : w95.cell? ⟨zbaav, 1, none⟩ = some (.bool false) := (zbaal zbaaw.out 1).trans rfl; have zbadp : w95.cell? ⟨zbaav, 2, none⟩ = some (.int .i64 0) := (zbaal zbaaw.out 2).trans rfl; have zbadq : w95.cell? ⟨zbaav, 3, none⟩ = some (.string (⟨#[]⟩ : ByteArray)) := (zbaal zbaaw.out 3).trans rfl; have zbadr : w95.cell? ⟨zbaav, 4, none⟩ = some (.slice none 0 0) := (zbaal zbaaw.out 4).trans rfl; have zbads := zbaam zbaaw.out 0; have zbadt := zbaam zbaaw.out 1; have zbadu := zbaam zbaaw.out 2; have zbadv := zbaam zbaaw.out 3; have zbadw := zbaam zbaaw.out 4; obtain ⟨Ao97, co97, eo97⟩ := Kd.R_slice HO753.out; subst eo97))
                     go_roundg k6
                     case measure => have := HK1.out; have := HJ5.out; have := HJ11.out; have := HJ20.out; have := HJ28.out; have := HK6.out; omega
                     case rel => exact ⟨(zbabb), (zbaas), (wrap64 (zbaau + 1)), (by first | rfl | (simp; done) | (simp [*]; done)), H', ⟨by have := HK1.out; have := HJ5.out; have := HJ11.out; have := HJ20.out; have := HJ28.out; have := HK6.out; omega⟩, ⟨by (with_reducible repeat (first | apply Kd.V_alloc | apply Kd.V_drewN | apply Kd.V_drew)); exact Kd.V_mono (Kd.V_far (p := ⟨zbaav, 4, none⟩) (Kd.V_far (p := ⟨zbaav, 3, none⟩) (Kd.V_far (p := ⟨zbaav, 2, none⟩) (Kd.V_far (p := ⟨zbaav, 1, none⟩) (Kd.V_far (p := ⟨zbaav, 0, none⟩) (Kd.V_mono HO_5.out (fun k_ hk => (⟨hk, hk.2⟩ : _ ∧ k_ ≠ zbaav))) (fun _ hk => hk.2) (.int .i64 t747)) (fun _ hk => hk.2) (.bool t748)) (fun _ hk => hk.2) (.int .i64 t749)) (fun _ hk => hk.2) (.string t750)) (fun _ hk => hk.2) (.slice Ao97 t751.length co97)) (fun _ hk => hk.1.1.1)⟩, ⟨by (with_reducible repeat (first | apply Kd.N_alloc | apply Kd.N_drewN | apply Kd.N_drew)); exact Kd.N_mono (Kd.N_far (p := ⟨zbaav, 4, none⟩) (Kd.N_far (p := ⟨zbaav, 3, none⟩) (Kd.N_far (p := ⟨zbaav, 2, none⟩) (Kd.N_far (p := ⟨zbaav, 1, none⟩) (Kd.N_far (p := ⟨zbaav, 0, none⟩) (Kd.N_mono HO_6.out (fun k_ hk => (⟨hk, hk.2⟩ : _ ∧ k_ ≠ zbaav))) (fun _ hk => hk.2) (.int .i64 t747)) (fun _ hk => hk.2) (.bool t748)) (fun _ hk => hk.2) (.int .i64 t749)) (fun _ hk => hk.2) (.string t750)) (fun _ hk => hk.2) (.slice Ao97 t751.length co97)) (fun _ hk => trivial)⟩, ⟨by repeat (first | (with_reducible first | exact HB.out | apply zbaak | apply zbaai | apply zbaaj | refine zbaah ?_ zbabe.out) | exact HB.out)⟩⟩
                    ·rw [if_neg c93] at H
                     have c93b0 : (t754 == 4) = false := beq_eq_false_iff_ne.mpr c93
                     have c93b1 : (t754 != 4) = true := bne_iff_ne.mpr c93
                     exact absurd ((Option.some.inj H).trans HTR.out) Bool.false_ne_true
                   ·as_aux_lemma =>
                    rw [if_neg c92] at H
                    have c92b0 : ((zbaas.length : Int) == 0) = false := beq_eq_false_iff_ne.mpr c92
                    have c92b1 : ((zbaas.length : Int) != 0) = true := bne_iff_ne.mpr c92
                    have c92b2 : ¬ (zbaas = []) := fun h_ => c92 (by rw [h_]; rfl)
                    obtain ⟨ji102, hji102⟩ : ∃ j_ : Int, (wrap64 ((zbaas.length : Int) - 1)) = j_ := ⟨_, rfl⟩
                    replace H : (if 0 ≤ (ji102) then (if (ji102) < (zbaas.length : Int) then (if (((rd_T36 zbaas (ji102)).f1) != (t754 == 130)) = true then (some false) else (if ((rd_T36 zbaas (ji102)).f1 = true) then (stowagelaw13_ChainNewest.l0 k6 l0 l1 zbabb zbaas (wrap64 (zbaau + 1))) else (if t754 = 0 then ((stowagelaw13_Ref.f k6 t747 t748 t749 t750 t751).bind fun bt758 => ((stowageref13_Same.f k6 bt758.1 bt758.2.1 bt758.2.2.1 bt758.2.2.2.1 bt758.2.2.2.2 ((rd_T36 zbaas (ji102)).f0) ((rd_T36 zbaas (ji102)).f1) ((rd_T36 zbaas (ji102)).f2) ((rd_T36 zbaas (ji102)).f3) ((rd_T36 zbaas (ji102)).f4)).bind fun t765 => (if t765 = true then (stowagelaw13_ChainNewest.l0 k6 l0 l1 zbabb zbaas (wrap64 (zbaau + 1))) else (some false)))) else (some false)))) else (none)) else (none)) = some r := by first | (rw [hji102] at H; exact H) | (simp only [hji102] at H ⊢; exact H)
                    (try rw [hji102] at A91)
                    have hji102w : (IntKind.i64.wrap ((zbaas.length : Int) - 1)) = ji102 := (i64_w _).trans hji102
                    by_cases c103 : 0 ≤ (ji102)
                    ·as_aux_lemma =>
                     rw [if_pos c103] at H
                     have c103b0 : decide (0 ≤ (ji102)) = true := decide_eq_true c103
                     clear c103
                     by_cases c104 : (ji102) < (zbaas.length : Int)
                     ·as_aux_lemma =>
                      rw [if_pos c104] at H
                      have c104b0 : decide ((ji102) < (zbaas.length : Int)) = true := decide_eq_true c104
                      clear c104
                      by_cases c105 : (((rd_T36 zbaas (ji102)).f1) != (t754 == 130)) = true
                      ·rw [if_pos c105] at H
                       have c105b0 : (((rd_T36 zbaas (ji102)).f1) != (t754 == 130)) = true := c105
                       (try (have c105b1 : decide (((rd_T36 zbaas (ji102)).f1) = (t754 == 130)) = false := by simpa using c105))
                       (try (have c105b2 : (((rd_T36 zbaas (ji102)).f1) == (t754 == 130)) = false := by simpa using c105))
                       (try (have c105b3 : ¬ (((rd_T36 zbaas (ji102)).f1) = (t754 == 130)) := by simpa using c105))
                       clear c105
                       exact absurd ((Option.some.inj H).trans HTR.out) Bool.false_ne_true
                      ·as_aux_lemma =>
                       rw [if_neg c105] at H
                       have c105b0 : (((rd_T36 zbaas (ji102)).f1) != (t754 == 130)) = false := by simpa using c105
                       (try (have c105b1 : decide (((rd_T36 zbaas (ji102)).f1) = (t754 == 130)) = true := by simpa using c105))
                       (try (have c105b2 : (((rd_T36 zbaas (ji102)).f1) == (t754 == 130)) = true := by simpa using c105))
                       clear c105
                       obtain ⟨bq116, hbq116⟩ : ∃ b_ : Bool, b_ = ((rd_T36 zbaas (ji102)).f1) := ⟨_, rfl⟩
                       replace H : (if (bq116 = true) then (stowagelaw13_ChainNewest.l0 k6 l0 l1 zbabb zbaas (wrap64 (zbaau + 1))) else (if t754 = 0 then ((stowagelaw13_Ref.f k6 t747 t748 t749 t750 t751).bind fun bt758 => ((stowageref13_Same.f k6 bt758.1 bt758.2.1 bt758.2.2.1 bt758.2.2.2.1 bt758.2.2.2.2 ((rd_T36 zbaas (ji102)).f0) (bq116) ((rd_T36 zbaas (ji102)).f2) ((rd_T36 zbaas (ji102)).f3) ((rd_T36 zbaas (ji102)).f4)).bind fun t765 => (if t765 = true then (stowagelaw13_ChainNewest.l0 k6 l0 l1 zbabb zbaas (wrap64 (zbaau + 1))) else (some false)))) else (some false))) = some r := by rw [← hbq116] at H; exact H
                       have Nbq116 := zbaaq hbq116
                       clear hbq116
                       by_cases c117 : (bq116 = true)
                       ·as_aux_lemma =>
                        subst c117
                        have cq116 : (t754 == 130) = true := by have hq_ := c105b0; rw [← Nbq116.out] at hq_; revert hq_; cases (t754 == 130) <;> simp
                        have H1 : (stowagelaw13_ChainNewest.l0 k6 l0 l1 zbabb zbaas (wrap64 (zbaau + 1))) = some r := by rw [if_pos rfl] at H; exact H
                        clear H
                        have H := H1
                        clear H1
                        have H' := zbaaq H
                        clear H
                        try go_wp2_with (first | ((with_reducible refine gate_callee (f := 24) rfl ?_); refine goesL_ (some 140) rfl rfl Try.func24 (by kernel_rfl) rfl #[.slice Ao58 zbabb.length co58] rfl (by (try simp only [zbaan, zbaao, zbaap]); first | done | rfl) ?_; (with_reducible refine (chain_Latest.calls k6 _ _ zbabb t747 t748 t749 t750 t751 t754 _ ?side1 ?side2 A91.out).mono ?_); (case side1 => repeat (first | exact (Kd.V_reads' HO_5.out).2.2 | (with_reducible refine Kd.C_alloc ?_ _) | (with_reducible refine Kd.C_drewN ?_ _) | (with_reducible refine Kd.C_drew ?_))); (case side2 => exact (Kd.V_reads' HO_5.out).2.1); rintro e w118 ⟨v752, rfl, ho0, hb⟩; refine ⟨_, rfl, ?_⟩; have n0_ := zbaaq (Kd.V_elder' (by (with_reducible repeat (first | apply Kd.V_alloc | apply Kd.V_drewN | apply Kd.V_drew)); exact HO_5.out) (Kd.R_base ho0) hb); have n1_ := zbaaq (Kd.N_elder' (by (with_reducible repeat (first | apply Kd.N_alloc | apply Kd.N_drewN | apply Kd.N_drew)); exact HO_6.out) (Kd.R_base ho0) hb); have n2_ := zbaaq (Kd.R_lower ho0 (below_size (by repeat (first | (with_reducible first | exact HB.out | apply zbaak | apply zbaai | apply zbaaj) | exact HB.out)))); have n3_ := zbaaq (below_step (by repeat (first | (with_reducible first | exact HB.out | apply zbaak | apply zbaai | apply zbaaj) | exact HB.out)) hb); clear HO_5; clear HO_6; clear HB; have HO_5 := n0_; have HO_6 := n1_; have HO753 := n2_; have HB := n3_; clear n0_ n1_ n2_ n3_; (try clear hb); (try clear hk); (try clear hi); (try clear ho0)) | ((with_reducible refine gate_dst (N := 13) rfl ?_); (try (refine gate_guard (by rfl) ?_; dsimp only)); refine box_event ?hg (N := 13) ?hd (cs := #[.int .i64 0, .bool false, .int .i64 0, .string (⟨#[]⟩ : ByteArray), .slice none 0 0]) (t := 24) ?hr ?_; (case hd => rfl); (case hg => rfl); (case hr => first | (go_simp; done) | (go_simp; rfl)); intro zbaav hg w119 hbox hb; have n0_ := zbaaq (Kd.V_below (Kd.V_elderB (by (with_reducible repeat (first | apply Kd.V_alloc | apply Kd.V_drewN | apply Kd.V_drew)); exact HO_5.out) zbaav (Nat.le_of_eq hg.symm)) hb); have n1_ := zbaaq (Kd.N_below (Kd.N_elderB (by (with_reducible repeat (first | apply Kd.N_alloc | apply Kd.N_drewN | apply Kd.N_drew)); exact HO_6.out) zbaav (Nat.le_of_eq hg.symm)) hb); have n2_ := zbaaq (Kd.R_below (by (with_reducible repeat (first | apply Kd.R_alloc | apply Kd.R_drewN | apply Kd.R_drew)); exact HO753.out) hb); have n3_ := zbaaq (below_step (by repeat (first | (with_reducible first | exact HB.out | apply zbaak | apply zbaai | apply zbaaj) | exact HB.out)) hb); have n4_ := zbaaq (hbox); have n5_ := zbaaq ((by rw [hg]; exact (below_size (by repeat (first | (with_reducible first | exact HB.out | apply zbaak | apply zbaai | apply zbaaj) | exact HB.out))) : w.heap.size ≤ zbaav)); have n6_ := zbaaq ((by rw [hg]; exact (below_size (by repeat (first | (with_reducible first | exact HB.out | apply zbaak | apply zbaai | apply zbaaj) | exact HB.out))) : w.heap.size ≤ zbaav)); clear HO_5; clear HO_6; clear HO753; clear HB; have HO_5 := n0_; have HO_6 := n1_; have HO753 := n2_; have HB := n3_; have zbaaw := n4_; have zbabn := n5_; have zbabe := n6_; clear n0_ n1_ n2_ n3_ n4_ n5_ n6_; clear hb hbox hg; have zbabp : w119.cell? ⟨zbaav, 0, none⟩ = some (.int .i64 0) := (zbaal zbaaw.out 0).trans rfl; have zbabq : w119.cell? ⟨zbaav, 1, none⟩ = some (.bool false) := (zbaal zbaaw.out 1).trans rfl; have zbabr : w119.cell? ⟨zbaav, 2, none⟩ = some (.int .i64 0) := (zbaal zbaaw.out 2).trans rfl; have zbabs : w119.cell? ⟨zbaav, 3, none⟩ = some (.string (⟨#[]⟩ : ByteArray)) := (zbaal zbaaw.out 3).trans rfl; have zbabt : w119.cell? ⟨zbaav, 4, none⟩ = some (.slice none 0 0) := (zbaal zbaaw.out 4).trans rfl; have zbabu := zbaam zbaaw.out 0; have zbabv := zbaam zbaaw.out 1; have zbabw := zbaam zbaaw.out 2; have zbabx := zbaam zbaaw.out 3; have zbaby := zbaam zbaaw.out 4; obtain ⟨Ao121, co121, eo121⟩ := Kd.R_slice HO753.out; subst eo121) | ((with_reducible refine gate_store (t := 24) (p := 13) rfl ?_); refine store_event (t := 24) (p := 13) (v := ?vo_w122) (w1 := (((((w119.setCell ⟨zbaav, 0, none⟩ (.int .i64 t747)).setCell ⟨zbaav, 1, none⟩ (.bool t748)).setCell ⟨zbaav, 2, none⟩ (.int .i64 t749)).setCell ⟨zbaav, 3, none⟩ (.string t750)).setCell ⟨zbaav, 4, none⟩ (.slice Ao121 t751.length co121))) ?hg ?ho ?hn ?hr ?_; (case ho => rfl); (case hg => rfl); (case hn => rfl); (case hr => first | (go_simp; done) | (go_simp; rfl)); intro w122 hw; have n0_ : Aside0 (Kd.V k24 24 w122 w.heap.size (fun k_ => some k_ ≠ (.slice Ao59 zbaas.length co59 : Value).ownBlock ∧ some k_ ≠ (.slice Ao121 t751.length co121 : Value).ownBlock ∧ k_ ≠ zbaav) (.slice Ao58 zbabb.length co58) zbabb) := ⟨(by rw [hw]; exact (by (with_reducible repeat (first | apply Kd.V_alloc | apply Kd.V_drewN | apply Kd.V_drew)); exact Kd.V_mono (Kd.V_far (p := ⟨zbaav, 4, none⟩) (Kd.V_far (p := ⟨zbaav, 3, none⟩) (Kd.V_far (p := ⟨zbaav, 2, none⟩) (Kd.V_far (p := ⟨zbaav, 1, none⟩) (Kd.V_far (p := ⟨zbaav, 0, none⟩) (Kd.V_mono HO_5.out (fun k_ hk => (⟨hk, hk.2⟩ : _ ∧ k_ ≠ zbaav))) (fun _ hk => hk.2) (.int .i64 t747)) (fun _ hk => hk.2) (.bool t748)) (fun _ hk => hk.2) (.int .i64 t749)) (fun _ hk => hk.2) (.string t750)) (fun _ hk => hk.2) (.slice Ao121 t751.length co121)) (fun _ hk => ⟨hk.1.1.1, ⟨hk.1.1.2, hk.1.2⟩⟩)))⟩; have n1_ : Aside0 (Kd.N k36 36 w122 w.heap.size (fun k_ => some k_ ≠ (.slice Ao121 t751.length co121 : Value).ownBlock ∧ k_ ≠ zbaav) (.slice Ao59 zbaas.length co59) zbaas) := ⟨(by rw [hw]; exact (by (with_reducible repeat (first | apply Kd.N_alloc | apply Kd.N_drewN | apply Kd.N_drew)); exact Kd.N_mono (Kd.N_far (p := ⟨zbaav, 4, none⟩) (Kd.N_far (p := ⟨zbaav, 3, none⟩) (Kd.N_far (p := ⟨zbaav, 2, none⟩) (Kd.N_far (p := ⟨zbaav, 1, none⟩) (Kd.N_far (p := ⟨zbaav, 0, none⟩) (Kd.N_mono HO_6.out (fun k_ hk => (⟨hk, hk.2⟩ : _ ∧ k_ ≠ zbaav))) (fun _ hk => hk.2) (.int .i64 t747)) (fun _ hk => hk.2) (.bool t748)) (fun _ hk => hk.2) (.int .i64 t749)) (fun _ hk => hk.2) (.string t750)) (fun _ hk => hk.2) (.slice Ao121 t751.length co121)) (fun _ hk => ⟨hk.1.1.2, hk.1.2⟩)))⟩; have n2_ : Aside0 (Kd.R k72 72 w122 w.heap.size (fun _ => True) (.slice Ao121 t751.length co121) t751) := ⟨(by rw [hw]; exact (by (with_reducible repeat (first | apply Kd.R_alloc | apply Kd.R_drewN | apply Kd.R_drew)); exact Kd.R_mono (Kd.R_far (p := ⟨zbaav, 4, none⟩) (Kd.R_far (p := ⟨zbaav, 3, none⟩) (Kd.R_far (p := ⟨zbaav, 2, none⟩) (Kd.R_far (p := ⟨zbaav, 1, none⟩) (Kd.R_far (p := ⟨zbaav, 0, none⟩) (Kd.R_types HO753.out zbaaw.out (by decide)) (fun _ hk => hk.2) (.int .i64 t747)) (fun _ hk => hk.2) (.bool t748)) (fun _ hk => hk.2) (.int .i64 t749)) (fun _ hk => hk.2) (.string t750)) (fun _ hk => hk.2) (.slice Ao121 t751.length co121)) (fun _ hk => trivial)))⟩; have n3_ : Aside0 (w122.heap[zbaav]? = some (.cells #[.int .i64 t747, .bool t748, .int .i64 t749, .string t750, .slice Ao121 t751.length co121] 24 (0, 0))) := ⟨(by rw [hw]; exact (by (with_reducible repeat (first | refine zbaae ?_ _ | refine zbaag ?_ | refine zbaaf ?_ _)); refine blk_put (cs := #[.int .i64 t747, .bool t748, .int .i64 t749, .string t750, .slice none 0 0]) ?_ 4 _ rfl; (with_reducible repeat (first | refine zbaae ?_ _ | refine zbaag ?_ | refine zbaaf ?_ _)); refine blk_put (cs := #[.int .i64 t747, .bool t748, .int .i64 t749, .string (⟨#[]⟩ : ByteArray), .slice none 0 0]) ?_ 3 _ rfl; (with_reducible repeat (first | refine zbaae ?_ _ | refine zbaag ?_ | refine zbaaf ?_ _)); refine blk_put (cs := #[.int .i64 t747, .bool t748, .int .i64 0, .string (⟨#[]⟩ : ByteArray), .slice none 0 0]) ?_ 2 _ rfl; (with_reducible repeat (first | refine zbaae ?_ _ | refine zbaag ?_ | refine zbaaf ?_ _)); refine blk_put (cs := #[.int .i64 t747, .bool false, .int .i64 0, .string (⟨#[]⟩ : ByteArray), .slice none 0 0]) ?_ 1 _ rfl; (with_reducible repeat (first | refine zbaae ?_ _ | refine zbaag ?_ | refine zbaaf ?_ _)); refine blk_put (cs := #[.int .i64 0, .bool false, .int .i64 0, .string (⟨#[]⟩ : ByteArray), .slice none 0 0]) ?_ 0 _ rfl; (with_reducible repeat (first | refine zbaae ?_ _ | refine zbaag ?_ | refine zbaaf ?_ _)); exact zbaaw.out))⟩; have n4_ : Aside0 (Below w.heap.size w w122) := ⟨(by rw [hw]; exact (by repeat (first | (with_reducible first | exact HB.out | apply zbaak | apply zbaai | apply zbaaj | refine zbaah ?_ zbabe.out) | exact HB.out)))⟩; clear hw; clear HO_5; clear HO_6; clear HO753; clear zbaaw; clear HB; have HO_5 := n0_; have HO_6 := n1_; have HO753 := n2_; have zbaaw := n3_; have HB := n4_; clear n0_ n1_ n2_ n3_ n4_; have p756 : 0 ≤ ((ji102) : Int) := of_decide_eq_true (by first | (with_reducible assumption) | assumption); have q756 : (ji102) < (zbaas.length : Int) := of_decide_eq_true (by first | (with_reducible assumption) | assumption); obtain ⟨ad756, A756_4, c756_4, e756, hx756_0, hx756_1, hx756_2, hx756_3, hx756_4, hl756_4, hi756_4⟩ := at_T36 (Kd.N_reads' HO_6.out).2.2 (ji102) p756 q756; (try rw [← Nbq116.out] at hx756_1); cases e756; obtain ⟨ce756, hce756, hMe756, hcc756⟩ := Kd.N_get HO_6.out z36 (ji102) p756 (by first | exact q756 | exact of_decide_eq_true (by first | (with_reducible assumption) | assumption) | (have e_ := (Kd.N_reads' HO_6.out).1; omega)); obtain ⟨ua756_4, uc756_4, rfl, ul756_4, ge756_4⟩ := k36_openF hMe756; have hv756_4 := hcc756 4 _ rfl; rw [add_field _ _ 4 (by omega)] at hv756_4; replace hv756_4 := Option.some.inj (hv756_4.symm.trans hx756_4); injection hv756_4 with hva_ hvn_ hvc_; rw [hva_] at ge756_4; rw [hvc_] at ul756_4; have HL756_4 := zbaaq (show Kd.V k74 74 _ w.heap.size _ _ ((rd_T36 zbaas (ji102)).f4) from Kd.V_mk ul756_4 ge756_4); clear hva_ hvn_ hvc_ ge756_4 ul756_4; clear hcc756 hce756; have HR756_4 := zbaaq hi756_4; have HC756_4 := zbaaq hl756_4; clear hi756_4 hl756_4; replace p756 := eq_true p756; replace q756 := eq_true q756) | ((with_reducible refine gate_dst (N := 15) rfl ?_); (try (refine gate_guard (by rfl) ?_; dsimp only)); refine box_event ?hg (N := 15) ?hd (cs := #[.int .i64 0, .bool false, .int .i64 0, .string (⟨#[]⟩ : ByteArray), .slice none 0 0]) (t := 36) ?hr ?_; (case hd => rfl); (case hg => rfl); (case hr => first | (go_simp; done) | (go_simp; rfl)); intro zbaat hg w123 hbox hb; have n0_ := zbaaq (Kd.V_below (Kd.V_elderB (by (with_reducible repeat (first | apply Kd.V_alloc | apply Kd.V_drewN | apply Kd.V_drew)); exact HO_5.out) zbaat (Nat.le_of_eq hg.symm)) hb); have n1_ := zbaaq (Kd.N_below (Kd.N_elderB (by (with_reducible repeat (first | apply Kd.N_alloc | apply Kd.N_drewN | apply Kd.N_drew)); exact HO_6.out) zbaat (Nat.le_of_eq hg.symm)) hb); have n2_ := zbaaq (Kd.R_below (by (with_reducible repeat (first | apply Kd.R_alloc | apply Kd.R_drewN | apply Kd.R_drew)); exact HO753.out) hb); have n3_ := zbaaq (Kd.V_below (Kd.V_elderB (by (with_reducible repeat (first | apply Kd.V_alloc | apply Kd.V_drewN | apply Kd.V_drew)); exact HL756_4.out) zbaat (Nat.le_of_eq hg.symm)) hb); have n4_ := zbaaq (blk_below (g := zbaav) (o := .cells #[.int .i64 t747, .bool t748, .int .i64 t749, .string t750, .slice Ao121 t751.length co121] 24 (0, 0)) (by (with_reducible repeat (first | refine zbaae ?_ _ | refine zbaag ?_ | refine zbaaf ?_ _)); exact zbaaw.out) hb); have n5_ := zbaaq (Kd.C_below (by repeat (first | (with_reducible exact HR756_4.out) | (with_reducible refine Kd.C_alloc ?_ _) | (with_reducible refine Kd.C_drewN ?_ _) | (with_reducible refine Kd.C_drew ?_) | exact HR756_4.out)) hb); have n6_ := zbaaq (below_step (by repeat (first | (with_reducible first | exact HB.out | apply zbaak | apply zbaai | apply zbaaj | refine zbaah ?_ zbabe.out) | exact HB.out)) hb); have n7_ := zbaaq (hbox); have n8_ := zbaaq ((by rw [hg]; exact (below_size (by repeat (first | (with_reducible first | exact HB.out | apply zbaak | apply zbaai | apply zbaaj | refine zbaah ?_ zbabe.out) | exact HB.out))) : w.heap.size ≤ zbaat)); have n9_ := zbaaq ((by rw [hg]; exact (below_size (by repeat (first | (with_reducible first | exact HB.out | apply zbaak | apply zbaai | apply zbaaj | refine zbaah ?_ zbabe.out) | exact HB.out))) : w.heap.size ≤ zbaat)); have n10_ := zbaaq ((by rw [hg]; exact Nat.ne_of_lt (blk_lt (g := zbaav) (o := .cells #[.int .i64 t747, .bool t748, .int .i64 t749, .string t750, .slice Ao121 t751.length co121] 24 (0, 0)) (by (with_reducible repeat (first | refine zbaae ?_ _ | refine zbaag ?_ | refine zbaaf ?_ _)); exact zbaaw.out)) : zbaav ≠ zbaat)); have n11_ := zbaaq ((by rw [hg]; exact Nat.ne_of_gt (blk_lt (g := zbaav) (o := .cells #[.int .i64 t747, .bool t748, .int .i64 t749, .string t750, .slice Ao121 t751.length co121] 24 (0, 0)) (by (with_reducible repeat (first | refine zbaae ?_ _ | refine zbaag ?_ | refine zbaaf ?_ _)); exact zbaaw.out)) : zbaat ≠ zbaav)); clear HO_5; clear HO_6; clear HO753; clear HL756_4; clear zbaaw; clear HR756_4; clear HB; have HO_5 := n0_; have HO_6 := n1_; have HO753 := n2_; have HL756_4 := n3_; have zbaaw := n4_; have HR756_4 := n5_; have HB := n6_; have zbaaz := n7_; have zbabo := n8_; have zbabi := n9_; have zbabd := n10_; have zbabj := n11_; clear n0_ n1_ n2_ n3_ n4_ n5_ n6_ n7_ n8_ n9_ n10_ n11_; clear hb hbox hg; have hnb124 := zbabj.out; have hnc124 := zbabd.out; have zbabz : w123.cell? ⟨zbaat, 0, none⟩ = some (.int .i64 0) := (zbaal zbaaz.out 0).trans rfl; have zbaca : w123.cell? ⟨zbaat, 1, none⟩ = some (.bool false) := (zbaal zbaaz.out 1).trans rfl; have zbacb : w123.cell? ⟨zbaat, 2, none⟩ = some (.int .i64 0) := (zbaal zbaaz.out 2).trans rfl; have zbacc : w123.cell? ⟨zbaat, 3, none⟩ = some (.string (⟨#[]⟩ : ByteArray)) := (zbaal zbaaz.out 3).trans rfl; have zbacd : w123.cell? ⟨zbaat, 4, none⟩ = some (.slice none 0 0) := (zbaal zbaaz.out 4).trans rfl; have zbace := zbaam zbaaz.out 0; have zbacf := zbaam zbaaz.out 1; have zbacg := zbaam zbaaz.out 2; have zbach := zbaam zbaaz.out 3; have zbaci := zbaam zbaaz.out 4))
                        have n0_ : Aside0 (Kd.V k24 24 (((((w123.setCell ⟨zbaat, 0, none⟩ (.int .i64 ((rd_T36 zbaas (ji102)).f0))).setCell ⟨zbaat, 1, none⟩ (.bool true)).setCell ⟨zbaat, 2, none⟩ (.int .i64 ((rd_T36 zbaas (ji102)).f2))).setCell ⟨zbaat, 3, none⟩ (.string ((rd_T36 zbaas (ji102)).f3))).setCell ⟨zbaat, 4, none⟩ (.slice A756_4 ((rd_T36 zbaas (ji102)).f4).length c756_4)) w.heap.size (fun k_ => some k_ ≠ (.slice (some ad756) zbaas.length co59 : Value).ownBlock ∧ some k_ ≠ (.slice Ao121 t751.length co121 : Value).ownBlock ∧ k_ ≠ zbaav ∧ k_ ≠ zbaat) (.slice Ao58 zbabb.length co58) zbabb) := ⟨by (with_reducible repeat (first | apply Kd.V_alloc | apply Kd.V_drewN | apply Kd.V_drew)); exact Kd.V_mono (Kd.V_far (p := ⟨zbaat, 4, none⟩) (Kd.V_far (p := ⟨zbaat, 3, none⟩) (Kd.V_far (p := ⟨zbaat, 2, none⟩) (Kd.V_far (p := ⟨zbaat, 1, none⟩) (Kd.V_far (p := ⟨zbaat, 0, none⟩) (Kd.V_mono HO_5.out (fun k_ hk => (⟨hk, hk.2⟩ : _ ∧ k_ ≠ zbaat))) (fun _ hk => hk.2) (.int .i64 ((rd_T36 zbaas (ji102)).f0))) (fun _ hk => hk.2) (.bool true)) (fun _ hk => hk.2) (.int .i64 ((rd_T36 zbaas (ji102)).f2))) (fun _ hk => hk.2) (.string ((rd_T36 zbaas (ji102)).f3))) (fun _ hk => hk.2) (.slice A756_4 ((rd_T36 zbaas (ji102)).f4).length c756_4)) (fun _ hk => ⟨hk.1.1.1, ⟨hk.1.1.2.1, ⟨hk.1.1.2.2, hk.1.2⟩⟩⟩)⟩
                        have n1_ : Aside0 (Kd.N k36 36 (((((w123.setCell ⟨zbaat, 0, none⟩ (.int .i64 ((rd_T36 zbaas (ji102)).f0))).setCell ⟨zbaat, 1, none⟩ (.bool true)).setCell ⟨zbaat, 2, none⟩ (.int .i64 ((rd_T36 zbaas (ji102)).f2))).setCell ⟨zbaat, 3, none⟩ (.string ((rd_T36 zbaas (ji102)).f3))).setCell ⟨zbaat, 4, none⟩ (.slice A756_4 ((rd_T36 zbaas (ji102)).f4).length c756_4)) w.heap.size (fun k_ => some k_ ≠ (.slice Ao121 t751.length co121 : Value).ownBlock ∧ k_ ≠ zbaav ∧ k_ ≠ zbaat) (.slice (some ad756) zbaas.length co59) zbaas) := ⟨by (with_reducible repeat (first | apply Kd.N_alloc | apply Kd.N_drewN | apply Kd.N_drew)); exact Kd.N_mono (Kd.N_far (p := ⟨zbaat, 4, none⟩) (Kd.N_far (p := ⟨zbaat, 3, none⟩) (Kd.N_far (p := ⟨zbaat, 2, none⟩) (Kd.N_far (p := ⟨zbaat, 1, none⟩) (Kd.N_far (p := ⟨zbaat, 0, none⟩) (Kd.N_mono HO_6.out (fun k_ hk => (⟨hk, hk.2⟩ : _ ∧ k_ ≠ zbaat))) (fun _ hk => hk.2) (.int .i64 ((rd_T36 zbaas (ji102)).f0))) (fun _ hk => hk.2) (.bool true)) (fun _ hk => hk.2) (.int .i64 ((rd_T36 zbaas (ji102)).f2))) (fun _ hk => hk.2) (.string ((rd_T36 zbaas (ji102)).f3))) (fun _ hk => hk.2) (.slice A756_4 ((rd_T36 zbaas (ji102)).f4).length c756_4)) (fun _ hk => ⟨hk.1.1.1, ⟨hk.1.1.2, hk.1.2⟩⟩)⟩
                        have n2_ : Aside0 (Kd.R k72 72 (((((w123.setCell ⟨zbaat, 0, none⟩ (.int .i64 ((rd_T36 zbaas (ji102)).f0))).setCell ⟨zbaat, 1, none⟩ (.bool true)).setCell ⟨zbaat, 2, none⟩ (.int .i64 ((rd_T36 zbaas (ji102)).f2))).setCell ⟨zbaat, 3, none⟩ (.string ((rd_T36 zbaas (ji102)).f3))).setCell ⟨zbaat, 4, none⟩ (.slice A756_4 ((rd_T36 zbaas (ji102)).f4).length c756_4)) w.heap.size (fun _ => True) (.slice Ao121 t751.length co121) t751) := ⟨by (with_reducible repeat (first | apply Kd.R_alloc | apply Kd.R_drewN | apply Kd.R_drew)); exact Kd.R_mono (Kd.R_far (p := ⟨zbaat, 4, none⟩) (Kd.R_far (p := ⟨zbaat, 3, none⟩) (Kd.R_far (p := ⟨zbaat, 2, none⟩) (Kd.R_far (p := ⟨zbaat, 1, none⟩) (Kd.R_far (p := ⟨zbaat, 0, none⟩) (Kd.R_types HO753.out zbaaz.out (by decide)) (fun _ hk => hk.2) (.int .i64 ((rd_T36 zbaas (ji102)).f0))) (fun _ hk => hk.2) (.bool true)) (fun _ hk => hk.2) (.int .i64 ((rd_T36 zbaas (ji102)).f2))) (fun _ hk => hk.2) (.string ((rd_T36 zbaas (ji102)).f3))) (fun _ hk => hk.2) (.slice A756_4 ((rd_T36 zbaas (ji102)).f4).length c756_4)) (fun _ hk => trivial)⟩
                        have n3_ : Aside0 (Kd.V k74 74 (((((w123.setCell ⟨zbaat, 0, none⟩ (.int .i64 ((rd_T36 zbaas (ji102)).f0))).setCell ⟨zbaat, 1, none⟩ (.bool true)).setCell ⟨zbaat, 2, none⟩ (.int .i64 ((rd_T36 zbaas (ji102)).f2))).setCell ⟨zbaat, 3, none⟩ (.string ((rd_T36 zbaas (ji102)).f3))).setCell ⟨zbaat, 4, none⟩ (.slice A756_4 ((rd_T36 zbaas (ji102)).f4).length c756_4)) w.heap.size (fun k_ => some k_ ≠ (.slice (some ad756) zbaas.length co59 : Value).ownBlock ∧ some k_ ≠ (.slice Ao121 t751.length co121 : Value).ownBlock ∧ k_ ≠ zbaav ∧ k_ ≠ zbaat) (.slice A756_4 ((rd_T36 zbaas (ji102)).f4).length c756_4) ((rd_T36 zbaas (ji102)).f4)) := ⟨by (with_reducible repeat (first | apply Kd.V_alloc | apply Kd.V_drewN | apply Kd.V_drew)); exact Kd.V_mono (Kd.V_far (p := ⟨zbaat, 4, none⟩) (Kd.V_far (p := ⟨zbaat, 3, none⟩) (Kd.V_far (p := ⟨zbaat, 2, none⟩) (Kd.V_far (p := ⟨zbaat, 1, none⟩) (Kd.V_far (p := ⟨zbaat, 0, none⟩) (Kd.V_mono HL756_4.out (fun k_ hk => (⟨hk, hk.2⟩ : _ ∧ k_ ≠ zbaat))) (fun _ hk => hk.2) (.int .i64 ((rd_T36 zbaas (ji102)).f0))) (fun _ hk => hk.2) (.bool true)) (fun _ hk => hk.2) (.int .i64 ((rd_T36 zbaas (ji102)).f2))) (fun _ hk => hk.2) (.string ((rd_T36 zbaas (ji102)).f3))) (fun _ hk => hk.2) (.slice A756_4 ((rd_T36 zbaas (ji102)).f4).length c756_4)) (fun _ hk => ⟨hk.1.1.2, ⟨hk.1.1.1.1, ⟨hk.1.1.1.2, hk.1.2⟩⟩⟩)⟩
                        have n4_ : Aside0 ((((((w123.setCell ⟨zbaat, 0, none⟩ (.int .i64 ((rd_T36 zbaas (ji102)).f0))).setCell ⟨zbaat, 1, none⟩ (.bool true)).setCell ⟨zbaat, 2, none⟩ (.int .i64 ((rd_T36 zbaas (ji102)).f2))).setCell ⟨zbaat, 3, none⟩ (.string ((rd_T36 zbaas (ji102)).f3))).setCell ⟨zbaat, 4, none⟩ (.slice A756_4 ((rd_T36 zbaas (ji102)).f4).length c756_4)).heap[zbaav]? = some (.cells #[.int .i64 t747, .bool t748, .int .i64 t749, .string t750, .slice Ao121 t751.length co121] 24 (0, 0))) := ⟨by (with_reducible repeat (first | refine zbaae ?_ _ | refine zbaag ?_ | refine zbaaf ?_ _)); refine blk_far ?_ zbabd.out _; (with_reducible repeat (first | refine zbaae ?_ _ | refine zbaag ?_ | refine zbaaf ?_ _)); refine blk_far ?_ zbabd.out _; (with_reducible repeat (first | refine zbaae ?_ _ | refine zbaag ?_ | refine zbaaf ?_ _)); refine blk_far ?_ zbabd.out _; (with_reducible repeat (first | refine zbaae ?_ _ | refine zbaag ?_ | refine zbaaf ?_ _)); refine blk_far ?_ zbabd.out _; (with_reducible repeat (first | refine zbaae ?_ _ | refine zbaag ?_ | refine zbaaf ?_ _)); refine blk_far ?_ zbabd.out _; (with_reducible repeat (first | refine zbaae ?_ _ | refine zbaag ?_ | refine zbaaf ?_ _)); exact zbaaw.out⟩
                        have n5_ : Aside0 ((((((w123.setCell ⟨zbaat, 0, none⟩ (.int .i64 ((rd_T36 zbaas (ji102)).f0))).setCell ⟨zbaat, 1, none⟩ (.bool true)).setCell ⟨zbaat, 2, none⟩ (.int .i64 ((rd_T36 zbaas (ji102)).f2))).setCell ⟨zbaat, 3, none⟩ (.string ((rd_T36 zbaas (ji102)).f3))).setCell ⟨zbaat, 4, none⟩ (.slice A756_4 ((rd_T36 zbaas (ji102)).f4).length c756_4)).heap[zbaat]? = some (.cells #[.int .i64 ((rd_T36 zbaas (ji102)).f0), .bool true, .int .i64 ((rd_T36 zbaas (ji102)).f2), .string ((rd_T36 zbaas (ji102)).f3), .slice A756_4 ((rd_T36 zbaas (ji102)).f4).length c756_4] 36 (0, 0))) := ⟨by (with_reducible repeat (first | refine zbaae ?_ _ | refine zbaag ?_ | refine zbaaf ?_ _)); refine blk_put (cs := #[.int .i64 ((rd_T36 zbaas (ji102)).f0), .bool true, .int .i64 ((rd_T36 zbaas (ji102)).f2), .string ((rd_T36 zbaas (ji102)).f3), .slice none 0 0]) ?_ 4 _ rfl; (with_reducible repeat (first | refine zbaae ?_ _ | refine zbaag ?_ | refine zbaaf ?_ _)); refine blk_put (cs := #[.int .i64 ((rd_T36 zbaas (ji102)).f0), .bool true, .int .i64 ((rd_T36 zbaas (ji102)).f2), .string (⟨#[]⟩ : ByteArray), .slice none 0 0]) ?_ 3 _ rfl; (with_reducible repeat (first | refine zbaae ?_ _ | refine zbaag ?_ | refine zbaaf ?_ _)); refine blk_put (cs := #[.int .i64 ((rd_T36 zbaas (ji102)).f0), .bool true, .int .i64 0, .string (⟨#[]⟩ : ByteArray), .slice none 0 0]) ?_ 2 _ rfl; (with_reducible repeat (first | refine zbaae ?_ _ | refine zbaag ?_ | refine zbaaf ?_ _)); refine blk_put (cs := #[.int .i64 ((rd_T36 zbaas (ji102)).f0), .bool false, .int .i64 0, .string (⟨#[]⟩ : ByteArray), .slice none 0 0]) ?_ 1 _ rfl; (with_reducible repeat (first | refine zbaae ?_ _ | refine zbaag ?_ | refine zbaaf ?_ _)); refine blk_put (cs := #[.int .i64 0, .bool false, .int .i64 0, .string (⟨#[]⟩ : ByteArray), .slice none 0 0]) ?_ 0 _ rfl; (with_reducible repeat (first | refine zbaae ?_ _ | refine zbaag ?_ | refine zbaaf ?_ _)); exact zbaaz.out⟩
                        have n6_ : Aside0 (Below w.heap.size w (((((w123.setCell ⟨zbaat, 0, none⟩ (.int .i64 ((rd_T36 zbaas (ji102)).f0))).setCell ⟨zbaat, 1, none⟩ (.bool true)).setCell ⟨zbaat, 2, none⟩ (.int .i64 ((rd_T36 zbaas (ji102)).f2))).setCell ⟨zbaat, 3, none⟩ (.string ((rd_T36 zbaas (ji102)).f3))).setCell ⟨zbaat, 4, none⟩ (.slice A756_4 ((rd_T36 zbaas (ji102)).f4).length c756_4))) := ⟨by repeat (first | (with_reducible first | exact HB.out | apply zbaak | apply zbaai | apply zbaaj | refine zbaah ?_ zbabe.out | refine zbaah ?_ zbabi.out) | exact HB.out)⟩
                        (try clear HO_5)
                        (try clear HO_6)
                        (try clear HO753)
                        (try clear HL756_4)
                        (try clear zbaaw)
                        (try clear zbaaz)
                        (try clear HB)
                        generalize (((((w123.setCell ⟨zbaat, 0, none⟩ (.int .i64 ((rd_T36 zbaas (ji102)).f0))).setCell ⟨zbaat, 1, none⟩ (.bool true)).setCell ⟨zbaat, 2, none⟩ (.int .i64 ((rd_T36 zbaas (ji102)).f2))).setCell ⟨zbaat, 3, none⟩ (.string ((rd_T36 zbaas (ji102)).f3))).setCell ⟨zbaat, 4, none⟩ (.slice A756_4 ((rd_T36 zbaas (ji102)).f4).length c756_4)) = w126 at n0_ n1_ n2_ n3_ n4_ n5_ n6_ ⊢
                        have HO_5 := n0_
                        have HO_6 := n1_
                        have HO753 := n2_
                        have HL756_4 := n3_
                        have zbaaw := n4_
                        have zbaaz := n5_
                        have HB := n6_
                        clear n0_ n1_ n2_ n3_ n4_ n5_ n6_
                        have n0_ := zbaaq (Kd.V_drew HO_5.out)
                        have n1_ := zbaaq (Kd.N_drew HO_6.out)
                        have n2_ := zbaaq (Kd.R_drew HO753.out)
                        have n3_ := zbaaq (Kd.V_drew HL756_4.out)
                        have n4_ := zbaaq (zbaag zbaaw.out)
                        have n5_ := zbaaq (zbaag zbaaz.out)
                        have n6_ := zbaaq (zbaaj HB.out)
                        clear HO_5
                        clear HO_6
                        clear HO753
                        clear HL756_4
                        clear zbaaw
                        clear zbaaz
                        clear HB
                        have HO_5 := n0_
                        have HO_6 := n1_
                        have HO753 := n2_
                        have HL756_4 := n3_
                        have zbaaw := n4_
                        have zbaaz := n5_
                        have HB := n6_
                        clear n0_ n1_ n2_ n3_ n4_ n5_ n6_
                        refine start_ (n := 21) (S := fun w' => w'.cell? ⟨zbaat, 0, none⟩ = some (.int .i64 ((rd_T36 zbaas (ji102)).f0)) ∧ w'.cell? ⟨zbaat, 1, none⟩ = some (.bool true) ∧ w'.cell? ⟨zbaat, 2, none⟩ = some (.int .i64 ((rd_T36 zbaas (ji102)).f2)) ∧ w'.cell? ⟨zbaat, 3, none⟩ = some (.string ((rd_T36 zbaas (ji102)).f3)) ∧ w'.cell? ⟨zbaat, 4, none⟩ = some (.slice A756_4 ((rd_T36 zbaas (ji102)).f4).length c756_4)) (ds := []) zbasq31 (by kernel_rfl) rfl rfl ⟨(zbaal zbaaz.out 0).trans rfl, (zbaal zbaaz.out 1).trans rfl, (zbaal zbaaz.out 2).trans rfl, (zbaal zbaaz.out 3).trans rfl, (zbaal zbaaz.out 4).trans rfl⟩ (fun hHeld => ?_); refine with_tabW stowagelaw13_ChainNewest.tab31 stowagelaw13_ChainNewest.bits31 (fun HT_ HW_ => ?_)
                        generalize w126.drew = w127 at HO_5 HO_6 HO753 HL756_4 zbaaw zbaaz HB hHeld ⊢
                        refine pure_ (i := 0) (N := some 154) (v := ?_) (a' := ?_) zbasq32 rfl rfl (any_of HT_.out (by kernel_rfl)) (fun _ _ _ h => h) (Or.inl ⟨by rfl, ?_⟩) ?_ ?_
                        rotate_left
                        ·intro w'
                         go_simp
                         with_reducible rfl
                        rotate_left
                        ·simp only [Act.put, zbaaa, zbaab, zbaac, i64_w, i32_w]
                         rfl
                        refine pure_ (i := 2) (N := some 156) (v := ?_) (a' := ?_) zbasq33 rfl rfl (any_of HT_.out (by kernel_rfl)) (fun _ _ _ h => h) (Or.inl ⟨by rfl, ?_⟩) ?_ ?_
                        rotate_left
                        ·intro w'
                         go_simp
                         with_reducible rfl
                        rotate_left
                        ·simp only [Act.put, zbaaa, zbaab, zbaac, i64_w, i32_w]
                         rfl
                        refine pure_ (i := 3) (N := some 157) (v := ?_) (a' := ?_) zbasq34 rfl rfl (any_of HT_.out (by kernel_rfl)) (fun _ _ _ h => h) (Or.inl ⟨by rfl, ?_⟩) ?_ ?_
                        rotate_left
                        ·intro w'
                         go_simp
                         with_reducible rfl
                        rotate_left
                        ·simp only [Act.put, zbaaa, zbaab, zbaac, i64_w, i32_w]
                         rfl
                        refine take_ (i := 1) (N := some 155) (v := ?_) (a' := ?_) zbasq35 rfl rfl (take_ofW HT_.out HW_.out (by kernel_rfl)) (fun _ _ _ h => h) (Or.inl ⟨by rfl, ?_⟩) hHeld ?_ ?_
                        rotate_left
                        ·rintro w' ⟨s0, s1, s2, s3, s4⟩
                         go_simp
                         with_reducible rfl
                        rotate_left
                        ·simp only [Act.put, zbaaa, zbaab, zbaac, i64_w, i32_w]
                         rfl
                        refine pure_ (i := 4) (N := some 158) (v := ?_) (a' := ?_) zbasq36 rfl rfl (any_of HT_.out (by kernel_rfl)) (fun _ _ _ h => h) (Or.inl ⟨by rfl, ?_⟩) ?_ ?_
                        rotate_left
                        ·intro w'
                         go_simp
                         with_reducible rfl
                        rotate_left
                        ·simp only [Act.put, zbaaa, zbaab, zbaac, i64_w, i32_w]
                         rfl
                        refine pure_ (i := 5) (N := some 159) (v := ?_) (a' := ?_) zbasq37 rfl rfl (any_of HT_.out (by kernel_rfl)) (fun _ _ _ h => h) (Or.inl ⟨by rfl, ?_⟩) ?_ ?_
                        rotate_left
                        ·intro w'
                         go_simp
                         with_reducible rfl
                        rotate_left
                        ·simp only [Act.put, zbaaa, zbaab, zbaac, i64_w, i32_w]
                         rfl
                        refine pure_ (i := 6) (N := some 160) (v := ?_) (a' := ?_) zbasq38 rfl rfl (any_of HT_.out (by kernel_rfl)) (fun _ _ _ h => h) (Or.inl ⟨by rfl, ?_⟩) ?_ ?_
                        rotate_left
                        ·intro w'
                         go_simp
                         with_reducible rfl
                        rotate_left
                        ·simp only [Act.put, zbaaa, zbaab, zbaac, i64_w, i32_w]
                         rfl
                        refine take_ (i := 7) (N := some 161) (v := ?_) (a' := ?_) zbasq39 rfl rfl (take_ofW HT_.out HW_.out (by kernel_rfl)) (fun _ _ _ h => h) (Or.inl ⟨by rfl, ?_⟩) hHeld ?_ ?_
                        rotate_left
                        ·rintro w' ⟨s0, s1, s2, s3, s4⟩
                         go_simp
                         with_reducible rfl
                        rotate_left
                        ·simp only [Act.put, zbaaa, zbaab, zbaac, i64_w, i32_w]
                         rfl
                        refine pure_ (i := 8) (N := some 162) (v := ?_) (a' := ?_) zbasq40 rfl rfl (any_of HT_.out (by kernel_rfl)) (fun _ _ _ h => h) (Or.inl ⟨by rfl, ?_⟩) ?_ ?_
                        rotate_left
                        ·intro w'
                         go_simp
                         with_reducible rfl
                        rotate_left
                        ·simp only [Act.put, zbaaa, zbaab, zbaac, i64_w, i32_w]
                         rfl
                        refine pure_ (i := 9) (N := some 163) (v := ?_) (a' := ?_) zbasq41 rfl rfl (any_of HT_.out (by kernel_rfl)) (fun _ _ _ h => h) (Or.inl ⟨by rfl, ?_⟩) ?_ ?_
                        rotate_left
                        ·intro w'
                         go_simp
                         with_reducible rfl
                        rotate_left
                        ·simp only [Act.put, zbaaa, zbaab, zbaac, i64_w, i32_w]
                         rfl
                        refine pure_ (i := 10) (N := some 164) (v := undef) (a' := ?_) zbasq42 rfl rfl (any_of HT_.out (by kernel_rfl)) (fun _ _ _ h => h) (Or.inr ⟨by rfl, rfl⟩) ?_ ?_
                        rotate_left
                        ·simp only [Act.put, zbaaa, zbaab, zbaac, i64_w, i32_w]
                         rfl
                        refine pure_ (i := 11) (N := some 165) (v := undef) (a' := ?_) zbasq43 rfl rfl (any_of HT_.out (by kernel_rfl)) (fun _ _ _ h => h) (Or.inr ⟨by rfl, rfl⟩) ?_ ?_
                        rotate_left
                        ·simp only [Act.put, zbaaa, zbaab, zbaac, i64_w, i32_w]
                         rfl
                        refine pure_ (i := 12) (N := some 166) (v := undef) (a' := ?_) zbasq44 rfl rfl (any_of HT_.out (by kernel_rfl)) (fun _ _ _ h => h) (Or.inr ⟨by rfl, rfl⟩) ?_ ?_
                        rotate_left
                        ·simp only [Act.put, zbaaa, zbaab, zbaac, i64_w, i32_w]
                         rfl
                        refine pure_ (i := 13) (N := some 167) (v := undef) (a' := ?_) zbasq45 rfl rfl (any_of HT_.out (by kernel_rfl)) (fun _ _ _ h => h) (Or.inr ⟨by rfl, rfl⟩) ?_ ?_
                        rotate_left
                        ·simp only [Act.put, zbaaa, zbaab, zbaac, i64_w, i32_w]
                         rfl
                        refine pure_ (i := 14) (N := some 168) (v := undef) (a' := ?_) zbasq46 rfl rfl (any_of HT_.out (by kernel_rfl)) (fun _ _ _ h => h) (Or.inr ⟨by rfl, rfl⟩) ?_ ?_
                        rotate_left
                        ·simp only [Act.put, zbaaa, zbaab, zbaac, i64_w, i32_w]
                         rfl
                        refine pure_ (i := 15) (N := some 169) (v := undef) (a' := ?_) zbasq47 rfl rfl (any_of HT_.out (by kernel_rfl)) (fun _ _ _ h => h) (Or.inr ⟨by rfl, rfl⟩) ?_ ?_
                        rotate_left
                        ·simp only [Act.put, zbaaa, zbaab, zbaac, i64_w, i32_w]
                         rfl
                        refine pure_ (i := 16) (N := some 170) (v := undef) (a' := ?_) zbasq48 rfl rfl (any_of HT_.out (by kernel_rfl)) (fun _ _ _ h => h) (Or.inr ⟨by rfl, rfl⟩) ?_ ?_
                        rotate_left
                        ·simp only [Act.put, zbaaa, zbaab, zbaac, i64_w, i32_w]
                         rfl
                        refine pure_ (i := 17) (N := some 171) (v := undef) (a' := ?_) zbasq49 rfl rfl (any_of HT_.out (by kernel_rfl)) (fun _ _ _ h => h) (Or.inr ⟨by rfl, rfl⟩) ?_ ?_
                        rotate_left
                        ·simp only [Act.put, zbaaa, zbaab, zbaac, i64_w, i32_w]
                         rfl
                        refine pure_ (i := 18) (N := some 172) (v := undef) (a' := ?_) zbasq50 rfl rfl (any_of HT_.out (by kernel_rfl)) (fun _ _ _ h => h) (Or.inr ⟨by rfl, rfl⟩) ?_ ?_
                        rotate_left
                        ·simp only [Act.put, zbaaa, zbaab, zbaac, i64_w, i32_w]
                         rfl
                        refine pure_ (i := 19) (N := some 173) (v := ?_) (a' := ?_) zbasq51 rfl rfl (any_of HT_.out (by kernel_rfl)) (fun _ _ _ h => h) (Or.inl ⟨by rfl, ?_⟩) ?_ ?_
                        rotate_left
                        ·intro w'
                         go_simp
                         with_reducible rfl
                        rotate_left
                        ·simp only [Act.put, zbaaa, zbaab, zbaac, i64_w, i32_w]
                         rfl
                        refine pure_ (i := 20) (N := some 174) (v := ?_) (a' := ?_) zbasq52 rfl rfl (any_of HT_.out (by kernel_rfl)) (fun _ _ _ h => h) (Or.inl ⟨by rfl, ?_⟩) ?_ ?_
                        rotate_left
                        ·intro w'
                         go_simp
                         with_reducible rfl
                        rotate_left
                        ·simp only [Act.put, zbaaa, zbaab, zbaac, i64_w, i32_w]
                         rfl
                        refine done_ (done_of HT_.out (by kernel_rfl)) ?_
                        try go_wp2
                        go_roundg k6
                        case measure => have := HK1.out; have := HJ5.out; have := HJ11.out; have := HJ20.out; have := HJ28.out; have := HK6.out; omega
                        case rel => exact ⟨(zbabb), (zbaas), (wrap64 (zbaau + 1)), (by first | rfl | (simp; done) | (simp [*]; done)), H', ⟨by have := HK1.out; have := HJ5.out; have := HJ11.out; have := HJ20.out; have := HJ28.out; have := HK6.out; omega⟩, ⟨by (with_reducible repeat (first | apply Kd.V_alloc | apply Kd.V_drewN | apply Kd.V_drew)); exact Kd.V_mono HO_5.out (fun _ hk => hk.1)⟩, ⟨by (with_reducible repeat (first | apply Kd.N_alloc | apply Kd.N_drewN | apply Kd.N_drew)); exact Kd.N_mono HO_6.out (fun _ hk => trivial)⟩, ⟨by repeat (first | (with_reducible first | exact HB.out | apply zbaak | apply zbaai | apply zbaaj | refine zbaah ?_ zbabe.out | refine zbaah ?_ zbabi.out) | exact HB.out)⟩⟩
                       ·as_aux_lemma =>
                        replace c117 := Bool.eq_false_iff.mpr c117
                        subst c117
                        have cq116 : (t754 == 130) = false := by have hq_ := c105b0; rw [← Nbq116.out] at hq_; revert hq_; cases (t754 == 130) <;> simp
                        have H1 : (if t754 = 0 then ((stowagelaw13_Ref.f k6 t747 t748 t749 t750 t751).bind fun bt758 => ((stowageref13_Same.f k6 bt758.1 bt758.2.1 bt758.2.2.1 bt758.2.2.2.1 bt758.2.2.2.2 ((rd_T36 zbaas (ji102)).f0) (false) ((rd_T36 zbaas (ji102)).f2) ((rd_T36 zbaas (ji102)).f3) ((rd_T36 zbaas (ji102)).f4)).bind fun t765 => (if t765 = true then (stowagelaw13_ChainNewest.l0 k6 l0 l1 zbabb zbaas (wrap64 (zbaau + 1))) else (some false)))) else (some false)) = some r := by rw [if_neg (show ¬ (false = true) by decide)] at H; exact H
                        clear H
                        have H := H1
                        clear H1
                        by_cases c128 : t754 = 0
                        ·as_aux_lemma =>
                         rw [if_pos c128] at H
                         have c128b0 : (t754 == 0) = true := beq_iff_eq.mpr c128
                         have c128b1 : (t754 != 0) = false := bne_eq_false_iff_eq.mpr c128
                         clear c128
                         replace H := Option.bind_eq_some_iff.mp H
                         obtain ⟨⟨t758, t759, t760, t761, t762⟩, A1290, H⟩ := H
                         replace H : ((stowageref13_Same.f k6 t758 t759 t760 t761 t762 ((rd_T36 zbaas (ji102)).f0) (false) ((rd_T36 zbaas (ji102)).f2) ((rd_T36 zbaas (ji102)).f3) ((rd_T36 zbaas (ji102)).f4)).bind fun t765 => (if t765 = true then (stowagelaw13_ChainNewest.l0 k6 l0 l1 zbabb zbaas (wrap64 (zbaau + 1))) else (some false))) = some r := H
                         have A129 := zbaaq A1290
                         clear A1290
                         replace H := Option.bind_eq_some_iff.mp H
                         obtain ⟨t765, A1300, H⟩ := H
                         replace H : (if t765 = true then (stowagelaw13_ChainNewest.l0 k6 l0 l1 zbabb zbaas (wrap64 (zbaau + 1))) else (some false)) = some r := H
                         have A130 := zbaaq A1300
                         clear A1300
                         by_cases c131 : t765 = true
                         ·as_aux_lemma =>
                          subst c131
                          have H1 : (stowagelaw13_ChainNewest.l0 k6 l0 l1 zbabb zbaas (wrap64 (zbaau + 1))) = some r := by rw [if_pos rfl] at H; exact H
                          clear H
                          have H := H1
                          clear H1
                          have H' := zbaaq H
                          clear H
                          try go_wp2_with (first | ((with_reducible refine gate_callee (f := 24) rfl ?_); refine goesL_ (some 140) rfl rfl Try.func24 (by kernel_rfl) rfl #[.slice Ao58 zbabb.length co58] rfl (by (try simp only [zbaan, zbaao, zbaap]); first | done | rfl) ?_; (with_reducible refine (chain_Latest.calls k6 _ _ zbabb t747 t748 t749 t750 t751 t754 _ ?side1 ?side2 A91.out).mono ?_); (case side1 => repeat (first | exact (Kd.V_reads' HO_5.out).2.2 | (with_reducible refine Kd.C_alloc ?_ _) | (with_reducible refine Kd.C_drewN ?_ _) | (with_reducible refine Kd.C_drew ?_))); (case side2 => exact (Kd.V_reads' HO_5.out).2.1); rintro e w132 ⟨v752, rfl, ho0, hb⟩; refine ⟨_, rfl, ?_⟩; have n0_ := zbaaq (Kd.V_elder' (by (with_reducible repeat (first | apply Kd.V_alloc | apply Kd.V_drewN | apply Kd.V_drew)); exact HO_5.out) (Kd.R_base ho0) hb); have n1_ := zbaaq (Kd.N_elder' (by (with_reducible repeat (first | apply Kd.N_alloc | apply Kd.N_drewN | apply Kd.N_drew)); exact HO_6.out) (Kd.R_base ho0) hb); have n2_ := zbaaq (Kd.R_lower ho0 (below_size (by repeat (first | (with_reducible first | exact HB.out | apply zbaak | apply zbaai | apply zbaaj) | exact HB.out)))); have n3_ := zbaaq (below_step (by repeat (first | (with_reducible first | exact HB.out | apply zbaak | apply zbaai | apply zbaaj) | exact HB.out)) hb); clear HO_5; clear HO_6; clear HB; have HO_5 := n0_; have HO_6 := n1_; have HO753 := n2_; have HB := n3_; clear n0_ n1_ n2_ n3_; (try clear hb); (try clear hk); (try clear hi); (try clear ho0)) | ((with_reducible refine gate_dst (N := 13) rfl ?_); (try (refine gate_guard (by rfl) ?_; dsimp only)); refine box_event ?hg (N := 13) ?hd (cs := #[.int .i64 0, .bool false, .int .i64 0, .string (⟨#[]⟩ : ByteArray), .slice none 0 0]) (t := 24) ?hr ?_; (case hd => rfl); (case hg => rfl); (case hr => first | (go_simp; done) | (go_simp; rfl)); intro zbaav hg w133 hbox hb; have n0_ := zbaaq (Kd.V_below (Kd.V_elderB (by (with_reducible repeat (first | apply Kd.V_alloc | apply Kd.V_drewN | apply Kd.V_drew)); exact HO_5.out) zbaav (Nat.le_of_eq hg.symm)) hb); have n1_ := zbaaq (Kd.N_below (Kd.N_elderB (by (with_reducible repeat (first | apply Kd.N_alloc | apply Kd.N_drewN | apply Kd.N_drew)); exact HO_6.out) zbaav (Nat.le_of_eq hg.symm)) hb); have n2_ := zbaaq (Kd.R_below (by (with_reducible repeat (first | apply Kd.R_alloc | apply Kd.R_drewN | apply Kd.R_drew)); exact HO753.out) hb); have n3_ := zbaaq (below_step (by repeat (first | (with_reducible first | exact HB.out | apply zbaak | apply zbaai | apply zbaaj) | exact HB.out)) hb); have n4_ := zbaaq (hbox); have n5_ := zbaaq ((by rw [hg]; exact (below_size (by repeat (first | (with_reducible first | exact HB.out | apply zbaak | apply zbaai | apply zbaaj) | exact HB.out))) : w.heap.size ≤ zbaav)); have n6_ := zbaaq ((by rw [hg]; exact (below_size (by repeat (first | (with_reducible first | exact HB.out | apply zbaak | apply zbaai | apply zbaaj) | exact HB.out))) : w.heap.size ≤ zbaav)); clear HO_5; clear HO_6; clear HO753; clear HB; have HO_5 := n0_; have HO_6 := n1_; have HO753 := n2_; have HB := n3_; have zbaaw := n4_; have zbabn := n5_; have zbabe := n6_; clear n0_ n1_ n2_ n3_ n4_ n5_ n6_; clear hb hbox hg; have zbacj : w133.cell? ⟨zbaav, 0, none⟩ = some (.int .i64 0) := (zbaal zbaaw.out 0).trans rfl; have zback : w133.cell? ⟨zbaav, 1, none⟩ = some (.bool false) := (zbaal zbaaw.out 1).trans rfl; have zbacl : w133.cell? ⟨zbaav, 2, none⟩ = some (.int .i64 0) := (zbaal zbaaw.out 2).trans rfl; have zbacm : w133.cell? ⟨zbaav, 3, none⟩ = some (.string (⟨#[]⟩ : ByteArray)) := (zbaal zbaaw.out 3).trans rfl; have zbacn : w133.cell? ⟨zbaav, 4, none⟩ = some (.slice none 0 0) := (zbaal zbaaw.out 4).trans rfl; have zbaco := zbaam zbaaw.out 0; have zbacp := zbaam zbaaw.out 1; have zbacq := zbaam zbaaw.out 2; have zbacr := zbaam zbaaw.out 3; have zbacs := zbaam zbaaw.out 4; obtain ⟨Ao135, co135, eo135⟩ := Kd.R_slice HO753.out; subst eo135) | ((with_reducible refine gate_store (t := 24) (p := 13) rfl ?_); refine store_event (t := 24) (p := 13) (v := ?vo_w136) (w1 := (((((w133.setCell ⟨zbaav, 0, none⟩ (.int .i64 t747)).setCell ⟨zbaav, 1, none⟩ (.bool t748)).setCell ⟨zbaav, 2, none⟩ (.int .i64 t749)).setCell ⟨zbaav, 3, none⟩ (.string t750)).setCell ⟨zbaav, 4, none⟩ (.slice Ao135 t751.length co135))) ?hg ?ho ?hn ?hr ?_; (case ho => rfl); (case hg => rfl); (case hn => rfl); (case hr => first | (go_simp; done) | (go_simp; rfl)); intro w136 hw; have n0_ : Aside0 (Kd.V k24 24 w136 w.heap.size (fun k_ => some k_ ≠ (.slice Ao59 zbaas.length co59 : Value).ownBlock ∧ some k_ ≠ (.slice Ao135 t751.length co135 : Value).ownBlock ∧ k_ ≠ zbaav) (.slice Ao58 zbabb.length co58) zbabb) := ⟨(by rw [hw]; exact (by (with_reducible repeat (first | apply Kd.V_alloc | apply Kd.V_drewN | apply Kd.V_drew)); exact Kd.V_mono (Kd.V_far (p := ⟨zbaav, 4, none⟩) (Kd.V_far (p := ⟨zbaav, 3, none⟩) (Kd.V_far (p := ⟨zbaav, 2, none⟩) (Kd.V_far (p := ⟨zbaav, 1, none⟩) (Kd.V_far (p := ⟨zbaav, 0, none⟩) (Kd.V_mono HO_5.out (fun k_ hk => (⟨hk, hk.2⟩ : _ ∧ k_ ≠ zbaav))) (fun _ hk => hk.2) (.int .i64 t747)) (fun _ hk => hk.2) (.bool t748)) (fun _ hk => hk.2) (.int .i64 t749)) (fun _ hk => hk.2) (.string t750)) (fun _ hk => hk.2) (.slice Ao135 t751.length co135)) (fun _ hk => ⟨hk.1.1.1, ⟨hk.1.1.2, hk.1.2⟩⟩)))⟩; have n1_ : Aside0 (Kd.N k36 36 w136 w.heap.size (fun k_ => some k_ ≠ (.slice Ao135 t751.length co135 : Value).ownBlock ∧ k_ ≠ zbaav) (.slice Ao59 zbaas.length co59) zbaas) := ⟨(by rw [hw]; exact (by (with_reducible repeat (first | apply Kd.N_alloc | apply Kd.N_drewN | apply Kd.N_drew)); exact Kd.N_mono (Kd.N_far (p := ⟨zbaav, 4, none⟩) (Kd.N_far (p := ⟨zbaav, 3, none⟩) (Kd.N_far (p := ⟨zbaav, 2, none⟩) (Kd.N_far (p := ⟨zbaav, 1, none⟩) (Kd.N_far (p := ⟨zbaav, 0, none⟩) (Kd.N_mono HO_6.out (fun k_ hk => (⟨hk, hk.2⟩ : _ ∧ k_ ≠ zbaav))) (fun _ hk => hk.2) (.int .i64 t747)) (fun _ hk => hk.2) (.bool t748)) (fun _ hk => hk.2) (.int .i64 t749)) (fun _ hk => hk.2) (.string t750)) (fun _ hk => hk.2) (.slice Ao135 t751.length co135)) (fun _ hk => ⟨hk.1.1.2, hk.1.2⟩)))⟩; have n2_ : Aside0 (Kd.R k72 72 w136 w.heap.size (fun _ => True) (.slice Ao135 t751.length co135) t751) := ⟨(by rw [hw]; exact (by (with_reducible repeat (first | apply Kd.R_alloc | apply Kd.R_drewN | apply Kd.R_drew)); exact Kd.R_mono (Kd.R_far (p := ⟨zbaav, 4, none⟩) (Kd.R_far (p := ⟨zbaav, 3, none⟩) (Kd.R_far (p := ⟨zbaav, 2, none⟩) (Kd.R_far (p := ⟨zbaav, 1, none⟩) (Kd.R_far (p := ⟨zbaav, 0, none⟩) (Kd.R_types HO753.out zbaaw.out (by decide)) (fun _ hk => hk.2) (.int .i64 t747)) (fun _ hk => hk.2) (.bool t748)) (fun _ hk => hk.2) (.int .i64 t749)) (fun _ hk => hk.2) (.string t750)) (fun _ hk => hk.2) (.slice Ao135 t751.length co135)) (fun _ hk => trivial)))⟩; have n3_ : Aside0 (w136.heap[zbaav]? = some (.cells #[.int .i64 t747, .bool t748, .int .i64 t749, .string t750, .slice Ao135 t751.length co135] 24 (0, 0))) := ⟨(by rw [hw]; exact (by (with_reducible repeat (first | refine zbaae ?_ _ | refine zbaag ?_ | refine zbaaf ?_ _)); refine blk_put (cs := #[.int .i64 t747, .bool t748, .int .i64 t749, .string t750, .slice none 0 0]) ?_ 4 _ rfl; (with_reducible repeat (first | refine zbaae ?_ _ | refine zbaag ?_ | refine zbaaf ?_ _)); refine blk_put (cs := #[.int .i64 t747, .bool t748, .int .i64 t749, .string (⟨#[]⟩ : ByteArray), .slice none 0 0]) ?_ 3 _ rfl; (with_reducible repeat (first | refine zbaae ?_ _ | refine zbaag ?_ | refine zbaaf ?_ _)); refine blk_put (cs := #[.int .i64 t747, .bool t748, .int .i64 0, .string (⟨#[]⟩ : ByteArray), .slice none 0 0]) ?_ 2 _ rfl; (with_reducible repeat (first | refine zbaae ?_ _ | refine zbaag ?_ | refine zbaaf ?_ _)); refine blk_put (cs := #[.int .i64 t747, .bool false, .int .i64 0, .string (⟨#[]⟩ : ByteArray), .slice none 0 0]) ?_ 1 _ rfl; (with_reducible repeat (first | refine zbaae ?_ _ | refine zbaag ?_ | refine zbaaf ?_ _)); refine blk_put (cs := #[.int .i64 0, .bool false, .int .i64 0, .string (⟨#[]⟩ : ByteArray), .slice none 0 0]) ?_ 0 _ rfl; (with_reducible repeat (first | refine zbaae ?_ _ | refine zbaag ?_ | refine zbaaf ?_ _)); exact zbaaw.out))⟩; have n4_ : Aside0 (Below w.heap.size w w136) := ⟨(by rw [hw]; exact (by repeat (first | (with_reducible first | exact HB.out | apply zbaak | apply zbaai | apply zbaaj | refine zbaah ?_ zbabe.out) | exact HB.out)))⟩; clear hw; clear HO_5; clear HO_6; clear HO753; clear zbaaw; clear HB; have HO_5 := n0_; have HO_6 := n1_; have HO753 := n2_; have zbaaw := n3_; have HB := n4_; clear n0_ n1_ n2_ n3_ n4_; have p756 : 0 ≤ ((ji102) : Int) := of_decide_eq_true (by first | (with_reducible assumption) | assumption); have q756 : (ji102) < (zbaas.length : Int) := of_decide_eq_true (by first | (with_reducible assumption) | assumption); obtain ⟨ad756, A756_4, c756_4, e756, hx756_0, hx756_1, hx756_2, hx756_3, hx756_4, hl756_4, hi756_4⟩ := at_T36 (Kd.N_reads' HO_6.out).2.2 (ji102) p756 q756; (try rw [← Nbq116.out] at hx756_1); cases e756; obtain ⟨ce756, hce756, hMe756, hcc756⟩ := Kd.N_get HO_6.out z36 (ji102) p756 (by first | exact q756 | exact of_decide_eq_true (by first | (with_reducible assumption) | assumption) | (have e_ := (Kd.N_reads' HO_6.out).1; omega)); obtain ⟨ua756_4, uc756_4, rfl, ul756_4, ge756_4⟩ := k36_openF hMe756; have hv756_4 := hcc756 4 _ rfl; rw [add_field _ _ 4 (by omega)] at hv756_4; replace hv756_4 := Option.some.inj (hv756_4.symm.trans hx756_4); injection hv756_4 with hva_ hvn_ hvc_; rw [hva_] at ge756_4; rw [hvc_] at ul756_4; have HL756_4 := zbaaq (show Kd.V k74 74 _ w.heap.size _ _ ((rd_T36 zbaas (ji102)).f4) from Kd.V_mk ul756_4 ge756_4); clear hva_ hvn_ hvc_ ge756_4 ul756_4; clear hcc756 hce756; have HR756_4 := zbaaq hi756_4; have HC756_4 := zbaaq hl756_4; clear hi756_4 hl756_4; replace p756 := eq_true p756; replace q756 := eq_true q756) | ((with_reducible refine gate_dst (N := 15) rfl ?_); (try (refine gate_guard (by rfl) ?_; dsimp only)); refine box_event ?hg (N := 15) ?hd (cs := #[.int .i64 0, .bool false, .int .i64 0, .string (⟨#[]⟩ : ByteArray), .slice none 0 0]) (t := 36) ?hr ?_; (case hd => rfl); (case hg => rfl); (case hr => first | (go_simp; done) | (go_simp; rfl)); intro zbaat hg w137 hbox hb; have n0_ := zbaaq (Kd.V_below (Kd.V_elderB (by (with_reducible repeat (first | apply Kd.V_alloc | apply Kd.V_drewN | apply Kd.V_drew)); exact HO_5.out) zbaat (Nat.le_of_eq hg.symm)) hb); have n1_ := zbaaq (Kd.N_below (Kd.N_elderB (by (with_reducible repeat (first | apply Kd.N_alloc | apply Kd.N_drewN | apply Kd.N_drew)); exact HO_6.out) zbaat (Nat.le_of_eq hg.symm)) hb); have n2_ := zbaaq (Kd.R_below (by (with_reducible repeat (first | apply Kd.R_alloc | apply Kd.R_drewN | apply Kd.R_drew)); exact HO753.out) hb); have n3_ := zbaaq (Kd.V_below (Kd.V_elderB (by (with_reducible repeat (first | apply Kd.V_alloc | apply Kd.V_drewN | apply Kd.V_drew)); exact HL756_4.out) zbaat (Nat.le_of_eq hg.symm)) hb); have n4_ := zbaaq (blk_below (g := zbaav) (o := .cells #[.int .i64 t747, .bool t748, .int .i64 t749, .string t750, .slice Ao135 t751.length co135] 24 (0, 0)) (by (with_reducible repeat (first | refine zbaae ?_ _ | refine zbaag ?_ | refine zbaaf ?_ _)); exact zbaaw.out) hb); have n5_ := zbaaq (Kd.C_below (by repeat (first | (with_reducible exact HR756_4.out) | (with_reducible refine Kd.C_alloc ?_ _) | (with_reducible refine Kd.C_drewN ?_ _) | (with_reducible refine Kd.C_drew ?_) | exact HR756_4.out)) hb); have n6_ := zbaaq (below_step (by repeat (first | (with_reducible first | exact HB.out | apply zbaak | apply zbaai | apply zbaaj | refine zbaah ?_ zbabe.out) | exact HB.out)) hb); have n7_ := zbaaq (hbox); have n8_ := zbaaq ((by rw [hg]; exact (below_size (by repeat (first | (with_reducible first | exact HB.out | apply zbaak | apply zbaai | apply zbaaj | refine zbaah ?_ zbabe.out) | exact HB.out))) : w.heap.size ≤ zbaat)); have n9_ := zbaaq ((by rw [hg]; exact (below_size (by repeat (first | (with_reducible first | exact HB.out | apply zbaak | apply zbaai | apply zbaaj | refine zbaah ?_ zbabe.out) | exact HB.out))) : w.heap.size ≤ zbaat)); have n10_ := zbaaq ((by rw [hg]; exact Nat.ne_of_lt (blk_lt (g := zbaav) (o := .cells #[.int .i64 t747, .bool t748, .int .i64 t749, .string t750, .slice Ao135 t751.length co135] 24 (0, 0)) (by (with_reducible repeat (first | refine zbaae ?_ _ | refine zbaag ?_ | refine zbaaf ?_ _)); exact zbaaw.out)) : zbaav ≠ zbaat)); have n11_ := zbaaq ((by rw [hg]; exact Nat.ne_of_gt (blk_lt (g := zbaav) (o := .cells #[.int .i64 t747, .bool t748, .int .i64 t749, .string t750, .slice Ao135 t751.length co135] 24 (0, 0)) (by (with_reducible repeat (first | refine zbaae ?_ _ | refine zbaag ?_ | refine zbaaf ?_ _)); exact zbaaw.out)) : zbaat ≠ zbaav)); clear HO_5; clear HO_6; clear HO753; clear HL756_4; clear zbaaw; clear HR756_4; clear HB; have HO_5 := n0_; have HO_6 := n1_; have HO753 := n2_; have HL756_4 := n3_; have zbaaw := n4_; have HR756_4 := n5_; have HB := n6_; have zbaaz := n7_; have zbabo := n8_; have zbabi := n9_; have zbabd := n10_; have zbabj := n11_; clear n0_ n1_ n2_ n3_ n4_ n5_ n6_ n7_ n8_ n9_ n10_ n11_; clear hb hbox hg; have hnb138 := zbabj.out; have hnc138 := zbabd.out; have zbact : w137.cell? ⟨zbaat, 0, none⟩ = some (.int .i64 0) := (zbaal zbaaz.out 0).trans rfl; have zbacu : w137.cell? ⟨zbaat, 1, none⟩ = some (.bool false) := (zbaal zbaaz.out 1).trans rfl; have zbacv : w137.cell? ⟨zbaat, 2, none⟩ = some (.int .i64 0) := (zbaal zbaaz.out 2).trans rfl; have zbacw : w137.cell? ⟨zbaat, 3, none⟩ = some (.string (⟨#[]⟩ : ByteArray)) := (zbaal zbaaz.out 3).trans rfl; have zbacx : w137.cell? ⟨zbaat, 4, none⟩ = some (.slice none 0 0) := (zbaal zbaaz.out 4).trans rfl; have zbacy := zbaam zbaaz.out 0; have zbacz := zbaam zbaaz.out 1; have zbada := zbaam zbaaz.out 2; have zbadb := zbaam zbaaz.out 3; have zbadc := zbaam zbaaz.out 4))
                          have n0_ : Aside0 (Kd.V k24 24 (((((w137.setCell ⟨zbaat, 0, none⟩ (.int .i64 ((rd_T36 zbaas (ji102)).f0))).setCell ⟨zbaat, 1, none⟩ (.bool false)).setCell ⟨zbaat, 2, none⟩ (.int .i64 ((rd_T36 zbaas (ji102)).f2))).setCell ⟨zbaat, 3, none⟩ (.string ((rd_T36 zbaas (ji102)).f3))).setCell ⟨zbaat, 4, none⟩ (.slice A756_4 ((rd_T36 zbaas (ji102)).f4).length c756_4)) w.heap.size (fun k_ => some k_ ≠ (.slice (some ad756) zbaas.length co59 : Value).ownBlock ∧ some k_ ≠ (.slice Ao135 t751.length co135 : Value).ownBlock ∧ k_ ≠ zbaav ∧ k_ ≠ zbaat) (.slice Ao58 zbabb.length co58) zbabb) := ⟨by (with_reducible repeat (first | apply Kd.V_alloc | apply Kd.V_drewN | apply Kd.V_drew)); exact Kd.V_mono (Kd.V_far (p := ⟨zbaat, 4, none⟩) (Kd.V_far (p := ⟨zbaat, 3, none⟩) (Kd.V_far (p := ⟨zbaat, 2, none⟩) (Kd.V_far (p := ⟨zbaat, 1, none⟩) (Kd.V_far (p := ⟨zbaat, 0, none⟩) (Kd.V_mono HO_5.out (fun k_ hk => (⟨hk, hk.2⟩ : _ ∧ k_ ≠ zbaat))) (fun _ hk => hk.2) (.int .i64 ((rd_T36 zbaas (ji102)).f0))) (fun _ hk => hk.2) (.bool false)) (fun _ hk => hk.2) (.int .i64 ((rd_T36 zbaas (ji102)).f2))) (fun _ hk => hk.2) (.string ((rd_T36 zbaas (ji102)).f3))) (fun _ hk => hk.2) (.slice A756_4 ((rd_T36 zbaas (ji102)).f4).length c756_4)) (fun _ hk => ⟨hk.1.1.1, ⟨hk.1.1.2.1, ⟨hk.1.1.2.2, hk.1.2⟩⟩⟩)⟩
                          have n1_ : Aside0 (Kd.N k36 36 (((((w137.setCell ⟨zbaat, 0, none⟩ (.int .i64 ((rd_T36 zbaas (ji102)).f0))).setCell ⟨zbaat, 1, none⟩ (.bool false)).setCell ⟨zbaat, 2, none⟩ (.int .i64 ((rd_T36 zbaas (ji102)).f2))).setCell ⟨zbaat, 3, none⟩ (.string ((rd_T36 zbaas (ji102)).f3))).setCell ⟨zbaat, 4, none⟩ (.slice A756_4 ((rd_T36 zbaas (ji102)).f4).length c756_4)) w.heap.size (fun k_ => some k_ ≠ (.slice Ao135 t751.length co135 : Value).ownBlock ∧ k_ ≠ zbaav ∧ k_ ≠ zbaat) (.slice (some ad756) zbaas.length co59) zbaas) := ⟨by (with_reducible repeat (first | apply Kd.N_alloc | apply Kd.N_drewN | apply Kd.N_drew)); exact Kd.N_mono (Kd.N_far (p := ⟨zbaat, 4, none⟩) (Kd.N_far (p := ⟨zbaat, 3, none⟩) (Kd.N_far (p := ⟨zbaat, 2, none⟩) (Kd.N_far (p := ⟨zbaat, 1, none⟩) (Kd.N_far (p := ⟨zbaat, 0, none⟩) (Kd.N_mono HO_6.out (fun k_ hk => (⟨hk, hk.2⟩ : _ ∧ k_ ≠ zbaat))) (fun _ hk => hk.2) (.int .i64 ((rd_T36 zbaas (ji102)).f0))) (fun _ hk => hk.2) (.bool false)) (fun _ hk => hk.2) (.int .i64 ((rd_T36 zbaas (ji102)).f2))) (fun _ hk => hk.2) (.string ((rd_T36 zbaas (ji102)).f3))) (fun _ hk => hk.2) (.slice A756_4 ((rd_T36 zbaas (ji102)).f4).length c756_4)) (fun _ hk => ⟨hk.1.1.1, ⟨hk.1.1.2, hk.1.2⟩⟩)⟩
                          have n2_ : Aside0 (Kd.R k72 72 (((((w137.setCell ⟨zbaat, 0, none⟩ (.int .i64 ((rd_T36 zbaas (ji102)).f0))).setCell ⟨zbaat, 1, none⟩ (.bool false)).setCell ⟨zbaat, 2, none⟩ (.int .i64 ((rd_T36 zbaas (ji102)).f2))).setCell ⟨zbaat, 3, none⟩ (.string ((rd_T36 zbaas (ji102)).f3))).setCell ⟨zbaat, 4, none⟩ (.slice A756_4 ((rd_T36 zbaas (ji102)).f4).length c756_4)) w.heap.size (fun _ => True) (.slice Ao135 t751.length co135) t751) := ⟨by (with_reducible repeat (first | apply Kd.R_alloc | apply Kd.R_drewN | apply Kd.R_drew)); exact Kd.R_mono (Kd.R_far (p := ⟨zbaat, 4, none⟩) (Kd.R_far (p := ⟨zbaat, 3, none⟩) (Kd.R_far (p := ⟨zbaat, 2, none⟩) (Kd.R_far (p := ⟨zbaat, 1, none⟩) (Kd.R_far (p := ⟨zbaat, 0, none⟩) (Kd.R_types HO753.out zbaaz.out (by decide)) (fun _ hk => hk.2) (.int .i64 ((rd_T36 zbaas (ji102)).f0))) (fun _ hk => hk.2) (.bool false)) (fun _ hk => hk.2) (.int .i64 ((rd_T36 zbaas (ji102)).f2))) (fun _ hk => hk.2) (.string ((rd_T36 zbaas (ji102)).f3))) (fun _ hk => hk.2) (.slice A756_4 ((rd_T36 zbaas (ji102)).f4).length c756_4)) (fun _ hk => trivial)⟩
                          have n3_ : Aside0 (Kd.V k74 74 (((((w137.setCell ⟨zbaat, 0, none⟩ (.int .i64 ((rd_T36 zbaas (ji102)).f0))).setCell ⟨zbaat, 1, none⟩ (.bool false)).setCell ⟨zbaat, 2, none⟩ (.int .i64 ((rd_T36 zbaas (ji102)).f2))).setCell ⟨zbaat, 3, none⟩ (.string ((rd_T36 zbaas (ji102)).f3))).setCell ⟨zbaat, 4, none⟩ (.slice A756_4 ((rd_T36 zbaas (ji102)).f4).length c756_4)) w.heap.size (fun k_ => some k_ ≠ (.slice (some ad756) zbaas.length co59 : Value).ownBlock ∧ some k_ ≠ (.slice Ao135 t751.length co135 : Value).ownBlock ∧ k_ ≠ zbaav ∧ k_ ≠ zbaat) (.slice A756_4 ((rd_T36 zbaas (ji102)).f4).length c756_4) ((rd_T36 zbaas (ji102)).f4)) := ⟨by (with_reducible repeat (first | apply Kd.V_alloc | apply Kd.V_drewN | apply Kd.V_drew)); exact Kd.V_mono (Kd.V_far (p := ⟨zbaat, 4, none⟩) (Kd.V_far (p := ⟨zbaat, 3, none⟩) (Kd.V_far (p := ⟨zbaat, 2, none⟩) (Kd.V_far (p := ⟨zbaat, 1, none⟩) (Kd.V_far (p := ⟨zbaat, 0, none⟩) (Kd.V_mono HL756_4.out (fun k_ hk => (⟨hk, hk.2⟩ : _ ∧ k_ ≠ zbaat))) (fun _ hk => hk.2) (.int .i64 ((rd_T36 zbaas (ji102)).f0))) (fun _ hk => hk.2) (.bool false)) (fun _ hk => hk.2) (.int .i64 ((rd_T36 zbaas (ji102)).f2))) (fun _ hk => hk.2) (.string ((rd_T36 zbaas (ji102)).f3))) (fun _ hk => hk.2) (.slice A756_4 ((rd_T36 zbaas (ji102)).f4).length c756_4)) (fun _ hk => ⟨hk.1.1.2, ⟨hk.1.1.1.1, ⟨hk.1.1.1.2, hk.1.2⟩⟩⟩)⟩
                          have n4_ : Aside0 ((((((w137.setCell ⟨zbaat, 0, none⟩ (.int .i64 ((rd_T36 zbaas (ji102)).f0))).setCell ⟨zbaat, 1, none⟩ (.bool false)).setCell ⟨zbaat, 2, none⟩ (.int .i64 ((rd_T36 zbaas (ji102)).f2))).setCell ⟨zbaat, 3, none⟩ (.string ((rd_T36 zbaas (ji102)).f3))).setCell ⟨zbaat, 4, none⟩ (.slice A756_4 ((rd_T36 zbaas (ji102)).f4).length c756_4)).heap[zbaav]? = some (.cells #[.int .i64 t747, .bool t748, .int .i64 t749, .string t750, .slice Ao135 t751.length co135] 24 (0, 0))) := ⟨by (with_reducible repeat (first | refine zbaae ?_ _ | refine zbaag ?_ | refine zbaaf ?_ _)); refine blk_far ?_ zbabd.out _; (with_reducible repeat (first | refine zbaae ?_ _ | refine zbaag ?_ | refine zbaaf ?_ _)); refine blk_far ?_ zbabd.out _; (with_reducible repeat (first | refine zbaae ?_ _ | refine zbaag ?_ | refine zbaaf ?_ _)); refine blk_far ?_ zbabd.out _; (with_reducible repeat (first | refine zbaae ?_ _ | refine zbaag ?_ | refine zbaaf ?_ _)); refine blk_far ?_ zbabd.out _; (with_reducible repeat (first | refine zbaae ?_ _ | refine zbaag ?_ | refine zbaaf ?_ _)); refine blk_far ?_ zbabd.out _; (with_reducible repeat (first | refine zbaae ?_ _ | refine zbaag ?_ | refine zbaaf ?_ _)); exact zbaaw.out⟩
                          have n5_ : Aside0 ((((((w137.setCell ⟨zbaat, 0, none⟩ (.int .i64 ((rd_T36 zbaas (ji102)).f0))).setCell ⟨zbaat, 1, none⟩ (.bool false)).setCell ⟨zbaat, 2, none⟩ (.int .i64 ((rd_T36 zbaas (ji102)).f2))).setCell ⟨zbaat, 3, none⟩ (.string ((rd_T36 zbaas (ji102)).f3))).setCell ⟨zbaat, 4, none⟩ (.slice A756_4 ((rd_T36 zbaas (ji102)).f4).length c756_4)).heap[zbaat]? = some (.cells #[.int .i64 ((rd_T36 zbaas (ji102)).f0), .bool false, .int .i64 ((rd_T36 zbaas (ji102)).f2), .string ((rd_T36 zbaas (ji102)).f3), .slice A756_4 ((rd_T36 zbaas (ji102)).f4).length c756_4] 36 (0, 0))) := ⟨by (with_reducible repeat (first | refine zbaae ?_ _ | refine zbaag ?_ | refine zbaaf ?_ _)); refine blk_put (cs := #[.int .i64 ((rd_T36 zbaas (ji102)).f0), .bool false, .int .i64 ((rd_T36 zbaas (ji102)).f2), .string ((rd_T36 zbaas (ji102)).f3), .slice none 0 0]) ?_ 4 _ rfl; (with_reducible repeat (first | refine zbaae ?_ _ | refine zbaag ?_ | refine zbaaf ?_ _)); refine blk_put (cs := #[.int .i64 ((rd_T36 zbaas (ji102)).f0), .bool false, .int .i64 ((rd_T36 zbaas (ji102)).f2), .string (⟨#[]⟩ : ByteArray), .slice none 0 0]) ?_ 3 _ rfl; (with_reducible repeat (first | refine zbaae ?_ _ | refine zbaag ?_ | refine zbaaf ?_ _)); refine blk_put (cs := #[.int .i64 ((rd_T36 zbaas (ji102)).f0), .bool false, .int .i64 0, .string (⟨#[]⟩ : ByteArray), .slice none 0 0]) ?_ 2 _ rfl; (with_reducible repeat (first | refine zbaae ?_ _ | refine zbaag ?_ | refine zbaaf ?_ _)); refine blk_put (cs := #[.int .i64 ((rd_T36 zbaas (ji102)).f0), .bool false, .int .i64 0, .string (⟨#[]⟩ : ByteArray), .slice none 0 0]) ?_ 1 _ rfl; (with_reducible repeat (first | refine zbaae ?_ _ | refine zbaag ?_ | refine zbaaf ?_ _)); refine blk_put (cs := #[.int .i64 0, .bool false, .int .i64 0, .string (⟨#[]⟩ : ByteArray), .slice none 0 0]) ?_ 0 _ rfl; (with_reducible repeat (first | refine zbaae ?_ _ | refine zbaag ?_ | refine zbaaf ?_ _)); exact zbaaz.out⟩
                          have n6_ : Aside0 (Below w.heap.size w (((((w137.setCell ⟨zbaat, 0, none⟩ (.int .i64 ((rd_T36 zbaas (ji102)).f0))).setCell ⟨zbaat, 1, none⟩ (.bool false)).setCell ⟨zbaat, 2, none⟩ (.int .i64 ((rd_T36 zbaas (ji102)).f2))).setCell ⟨zbaat, 3, none⟩ (.string ((rd_T36 zbaas (ji102)).f3))).setCell ⟨zbaat, 4, none⟩ (.slice A756_4 ((rd_T36 zbaas (ji102)).f4).length c756_4))) := ⟨by repeat (first | (with_reducible first | exact HB.out | apply zbaak | apply zbaai | apply zbaaj | refine zbaah ?_ zbabe.out | refine zbaah ?_ zbabi.out) | exact HB.out)⟩
                          (try clear HO_5)
                          (try clear HO_6)
                          (try clear HO753)
                          (try clear HL756_4)
                          (try clear zbaaw)
                          (try clear zbaaz)
                          (try clear HB)
                          generalize (((((w137.setCell ⟨zbaat, 0, none⟩ (.int .i64 ((rd_T36 zbaas (ji102)).f0))).setCell ⟨zbaat, 1, none⟩ (.bool false)).setCell ⟨zbaat, 2, none⟩ (.int .i64 ((rd_T36 zbaas (ji102)).f2))).setCell ⟨zbaat, 3, none⟩ (.string ((rd_T36 zbaas (ji102)).f3))).setCell ⟨zbaat, 4, none⟩ (.slice A756_4 ((rd_T36 zbaas (ji102)).f4).length c756_4)) = w140 at n0_ n1_ n2_ n3_ n4_ n5_ n6_ ⊢
                          have HO_5 := n0_
                          have HO_6 := n1_
                          have HO753 := n2_
                          have HL756_4 := n3_
                          have zbaaw := n4_
                          have zbaaz := n5_
                          have HB := n6_
                          clear n0_ n1_ n2_ n3_ n4_ n5_ n6_
                          have n0_ := zbaaq (Kd.V_drew HO_5.out)
                          have n1_ := zbaaq (Kd.N_drew HO_6.out)
                          have n2_ := zbaaq (Kd.R_drew HO753.out)
                          have n3_ := zbaaq (Kd.V_drew HL756_4.out)
                          have n4_ := zbaaq (zbaag zbaaw.out)
                          have n5_ := zbaaq (zbaag zbaaz.out)
                          have n6_ := zbaaq (zbaaj HB.out)
                          clear HO_5
                          clear HO_6
                          clear HO753
                          clear HL756_4
                          clear zbaaw
                          clear zbaaz
                          clear HB
                          have HO_5 := n0_
                          have HO_6 := n1_
                          have HO753 := n2_
                          have HL756_4 := n3_
                          have zbaaw := n4_
                          have zbaaz := n5_
                          have HB := n6_
                          clear n0_ n1_ n2_ n3_ n4_ n5_ n6_
                          refine start_ (n := 21) (S := fun w' => w'.cell? ⟨zbaat, 0, none⟩ = some (.int .i64 ((rd_T36 zbaas (ji102)).f0)) ∧ w'.cell? ⟨zbaat, 1, none⟩ = some (.bool false) ∧ w'.cell? ⟨zbaat, 2, none⟩ = some (.int .i64 ((rd_T36 zbaas (ji102)).f2)) ∧ w'.cell? ⟨zbaat, 3, none⟩ = some (.string ((rd_T36 zbaas (ji102)).f3)) ∧ w'.cell? ⟨zbaat, 4, none⟩ = some (.slice A756_4 ((rd_T36 zbaas (ji102)).f4).length c756_4) ∧ w'.cell? ⟨zbaav, 0, none⟩ = some (.int .i64 t747) ∧ w'.cell? ⟨zbaav, 1, none⟩ = some (.bool t748) ∧ w'.cell? ⟨zbaav, 2, none⟩ = some (.int .i64 t749) ∧ w'.cell? ⟨zbaav, 3, none⟩ = some (.string t750) ∧ w'.cell? ⟨zbaav, 4, none⟩ = some (.slice Ao135 t751.length co135)) (ds := []) zbasq31 (by kernel_rfl) rfl rfl ⟨(zbaal zbaaz.out 0).trans rfl, (zbaal zbaaz.out 1).trans rfl, (zbaal zbaaz.out 2).trans rfl, (zbaal zbaaz.out 3).trans rfl, (zbaal zbaaz.out 4).trans rfl, (zbaal zbaaw.out 0).trans rfl, (zbaal zbaaw.out 1).trans rfl, (zbaal zbaaw.out 2).trans rfl, (zbaal zbaaw.out 3).trans rfl, (zbaal zbaaw.out 4).trans rfl⟩ (fun hHeld => ?_); refine with_tabW stowagelaw13_ChainNewest.tab31 stowagelaw13_ChainNewest.bits31 (fun HT_ HW_ => ?_)
                          generalize w140.drew = w141 at HO_5 HO_6 HO753 HL756_4 zbaaw zbaaz HB hHeld ⊢
                          refine pure_ (i := 0) (N := some 154) (v := ?_) (a' := ?_) zbasq32 rfl rfl (any_of HT_.out (by kernel_rfl)) (fun _ _ _ h => h) (Or.inl ⟨by rfl, ?_⟩) ?_ ?_
                          rotate_left
                          ·intro w'
                           go_simp
                           with_reducible rfl
                          rotate_left
                          ·simp only [Act.put, zbaaa, zbaab, zbaac, i64_w, i32_w]
                           rfl
                          refine pure_ (i := 2) (N := some 156) (v := ?_) (a' := ?_) zbasq33 rfl rfl (any_of HT_.out (by kernel_rfl)) (fun _ _ _ h => h) (Or.inl ⟨by rfl, ?_⟩) ?_ ?_
                          rotate_left
                          ·intro w'
                           go_simp
                           with_reducible rfl
                          rotate_left
                          ·simp only [Act.put, zbaaa, zbaab, zbaac, i64_w, i32_w]
                           rfl
                          refine pure_ (i := 3) (N := some 157) (v := ?_) (a' := ?_) zbasq34 rfl rfl (any_of HT_.out (by kernel_rfl)) (fun _ _ _ h => h) (Or.inl ⟨by rfl, ?_⟩) ?_ ?_
                          rotate_left
                          ·intro w'
                           go_simp
                           with_reducible rfl
                          rotate_left
                          ·simp only [Act.put, zbaaa, zbaab, zbaac, i64_w, i32_w]
                           rfl
                          refine take_ (i := 1) (N := some 155) (v := ?_) (a' := ?_) zbasq35 rfl rfl (take_ofW HT_.out HW_.out (by kernel_rfl)) (fun _ _ _ h => h) (Or.inl ⟨by rfl, ?_⟩) hHeld ?_ ?_
                          rotate_left
                          ·rintro w' ⟨s0, s1, s2, s3, s4, s5, s6, s7, s8, s9⟩
                           go_simp
                           with_reducible rfl
                          rotate_left
                          ·simp only [Act.put, zbaaa, zbaab, zbaac, i64_w, i32_w]
                           rfl
                          refine pure_ (i := 4) (N := some 158) (v := ?_) (a' := ?_) zbasq36 rfl rfl (any_of HT_.out (by kernel_rfl)) (fun _ _ _ h => h) (Or.inl ⟨by rfl, ?_⟩) ?_ ?_
                          rotate_left
                          ·intro w'
                           go_simp
                           with_reducible rfl
                          rotate_left
                          ·simp only [Act.put, zbaaa, zbaab, zbaac, i64_w, i32_w]
                           rfl
                          refine pure_ (i := 5) (N := some 159) (v := ?_) (a' := ?_) zbasq37 rfl rfl (any_of HT_.out (by kernel_rfl)) (fun _ _ _ h => h) (Or.inl ⟨by rfl, ?_⟩) ?_ ?_
                          rotate_left
                          ·intro w'
                           go_simp
                           with_reducible rfl
                          rotate_left
                          ·simp only [Act.put, zbaaa, zbaab, zbaac, i64_w, i32_w]
                           rfl
                          refine pure_ (i := 6) (N := some 160) (v := ?_) (a' := ?_) zbasq38 rfl rfl (any_of HT_.out (by kernel_rfl)) (fun _ _ _ h => h) (Or.inl ⟨by rfl, ?_⟩) ?_ ?_
                          rotate_left
                          ·intro w'
                           go_simp
                           with_reducible rfl
                          rotate_left
                          ·simp only [Act.put, zbaaa, zbaab, zbaac, i64_w, i32_w]
                           rfl
                          refine take_ (i := 7) (N := some 161) (v := ?_) (a' := ?_) zbasq39 rfl rfl (take_ofW HT_.out HW_.out (by kernel_rfl)) (fun _ _ _ h => h) (Or.inl ⟨by rfl, ?_⟩) hHeld ?_ ?_
                          rotate_left
                          ·rintro w' ⟨s0, s1, s2, s3, s4, s5, s6, s7, s8, s9⟩
                           go_simp
                           with_reducible rfl
                          rotate_left
                          ·simp only [Act.put, zbaaa, zbaab, zbaac, i64_w, i32_w]
                           rfl
                          refine pure_ (i := 8) (N := some 162) (v := ?_) (a' := ?_) zbasq40 rfl rfl (any_of HT_.out (by kernel_rfl)) (fun _ _ _ h => h) (Or.inl ⟨by rfl, ?_⟩) ?_ ?_
                          rotate_left
                          ·intro w'
                           go_simp
                           with_reducible rfl
                          rotate_left
                          ·simp only [Act.put, zbaaa, zbaab, zbaac, i64_w, i32_w]
                           rfl
                          refine pure_ (i := 9) (N := some 163) (v := ?_) (a' := ?_) zbasq41 rfl rfl (any_of HT_.out (by kernel_rfl)) (fun _ _ _ h => h) (Or.inl ⟨by rfl, ?_⟩) ?_ ?_
                          rotate_left
                          ·intro w'
                           go_simp
                           with_reducible rfl
                          rotate_left
                          ·simp only [Act.put, zbaaa, zbaab, zbaac, i64_w, i32_w]
                           rfl
                          refine pure_ (i := 10) (N := some 164) (v := ?_) (a' := ?_) zbasq42 rfl rfl (any_of HT_.out (by kernel_rfl)) (fun _ _ _ h => h) (Or.inl ⟨by rfl, ?_⟩) ?_ ?_
                          rotate_left
                          ·intro w'
                           go_simp
                           with_reducible rfl
                          rotate_left
                          ·simp only [Act.put, zbaaa, zbaab, zbaac, i64_w, i32_w]
                           rfl
                          refine pure_ (i := 11) (N := some 165) (v := ?_) (a' := ?_) zbasq43 rfl rfl (any_of HT_.out (by kernel_rfl)) (fun _ _ _ h => h) (Or.inl ⟨by rfl, ?_⟩) ?_ ?_
                          rotate_left
                          ·intro w'
                           go_simp
                           with_reducible rfl
                          rotate_left
                          ·simp only [Act.put, zbaaa, zbaab, zbaac, i64_w, i32_w]
                           rfl
                          refine pure_ (i := 12) (N := some 166) (v := ?_) (a' := ?_) zbasq44 rfl rfl (any_of HT_.out (by kernel_rfl)) (fun _ _ _ h => h) (Or.inl ⟨by rfl, ?_⟩) ?_ ?_
                          rotate_left
                          ·intro w'
                           go_simp
                           with_reducible rfl
                          rotate_left
                          ·simp only [Act.put, zbaaa, zbaab, zbaac, i64_w, i32_w]
                           rfl
                          refine take_ (i := 13) (N := some 167) (v := ?_) (a' := ?_) zbasq45 rfl rfl (take_ofW HT_.out HW_.out (by kernel_rfl)) (fun _ _ _ h => h) (Or.inl ⟨by rfl, ?_⟩) hHeld ?_ ?_
                          rotate_left
                          ·rintro w' ⟨s0, s1, s2, s3, s4, s5, s6, s7, s8, s9⟩
                           go_simp
                           with_reducible rfl
                          rotate_left
                          ·simp only [Act.put, zbaaa, zbaab, zbaac, i64_w, i32_w]
                           rfl
                          refine take_ (i := 15) (N := some 169) (v := ?_) (a' := ?_) zbasq53 rfl rfl (take_ofW HT_.out HW_.out (by kernel_rfl)) (fun _ _ _ h => h) (Or.inl ⟨by rfl, ?_⟩) hHeld ?_ ?_
                          rotate_left
                          ·rintro w' ⟨s0, s1, s2, s3, s4, s5, s6, s7, s8, s9⟩
                           go_simp
                           with_reducible rfl
                          rotate_left
                          ·simp only [Act.put, zbaaa, zbaab, zbaac, i64_w, i32_w]
                           rfl
                          refine one_ (i := 14) (N := some 168) zbasq47 rfl rfl (one_of HT_.out (by kernel_rfl)) (by decide) (fun K hK => ?_)
                          refine goes_ Try.func15 (by kernel_rfl) rfl #[.agg #[.int .i64 t747, .bool t748, .int .i64 t749, .string t750, .slice Ao135 t751.length co135]] (by rfl) rfl rfl (by (try simp only [zbaan, zbaao, zbaap]); first | done | rfl) ?_
                          with_reducible refine (stowagelaw13_Ref.calls k6 t747 t748 t749 t750 _ _ t751 t758 t759 t760 t761 t762 _ ?side1 ?side2 A129.out).mono ?_
                          (case side1 => repeat (first | exact (Kd.R_reads' HO753.out).2.2 | (with_reducible refine Kd.C_alloc ?_ _) | (with_reducible refine Kd.C_drewN ?_ _) | (with_reducible refine Kd.C_drew ?_)))
                          (case side2 => exact (Kd.R_reads' HO753.out).2.1)
                          rintro e w142 ⟨v763, rfl, ho0, hb⟩
                          refine ⟨_, rfl, ?_⟩
                          have n0_ := zbaaq (Kd.V_elder' (by (with_reducible repeat (first | apply Kd.V_alloc | apply Kd.V_drewN | apply Kd.V_drew)); exact HO_5.out) (Kd.R_base ho0) hb)
                          have n1_ := zbaaq (Kd.N_elder' (by (with_reducible repeat (first | apply Kd.N_alloc | apply Kd.N_drewN | apply Kd.N_drew)); exact HO_6.out) (Kd.R_base ho0) hb)
                          have n2_ := zbaaq (Kd.R_below (by (with_reducible repeat (first | apply Kd.R_alloc | apply Kd.R_drewN | apply Kd.R_drew)); exact HO753.out) hb)
                          have n3_ := zbaaq (Kd.V_elder' (by (with_reducible repeat (first | apply Kd.V_alloc | apply Kd.V_drewN | apply Kd.V_drew)); exact HL756_4.out) (Kd.R_base ho0) hb)
                          have n4_ := zbaaq (Kd.R_lower ho0 (below_size (by repeat (first | (with_reducible first | exact HB.out | apply zbaak | apply zbaai | apply zbaaj | refine zbaah ?_ zbabe.out | refine zbaah ?_ zbabi.out) | exact HB.out))))
                          have n5_ := zbaaq (blk_below (g := zbaav) (o := .cells #[.int .i64 t747, .bool t748, .int .i64 t749, .string t750, .slice Ao135 t751.length co135] 24 (0, 0)) (by (with_reducible repeat (first | refine zbaae ?_ _ | refine zbaag ?_ | refine zbaaf ?_ _)); exact zbaaw.out) hb)
                          have n6_ := zbaaq (blk_below (g := zbaat) (o := .cells #[.int .i64 ((rd_T36 zbaas (ji102)).f0), .bool false, .int .i64 ((rd_T36 zbaas (ji102)).f2), .string ((rd_T36 zbaas (ji102)).f3), .slice A756_4 ((rd_T36 zbaas (ji102)).f4).length c756_4] 36 (0, 0)) (by (with_reducible repeat (first | refine zbaae ?_ _ | refine zbaag ?_ | refine zbaaf ?_ _)); exact zbaaz.out) hb)
                          have n7_ := zbaaq (below_step (by repeat (first | (with_reducible first | exact HB.out | apply zbaak | apply zbaai | apply zbaaj | refine zbaah ?_ zbabe.out | refine zbaah ?_ zbabi.out) | exact HB.out)) hb)
                          clear HO_5
                          clear HO_6
                          clear HO753
                          clear HL756_4
                          clear zbaaw
                          clear zbaaz
                          clear HB
                          have HO_5 := n0_
                          have HO_6 := n1_
                          have HO753 := n2_
                          have HL756_4 := n3_
                          have HO764 := n4_
                          have zbaaw := n5_
                          have zbaaz := n6_
                          have HB := n7_
                          clear n0_ n1_ n2_ n3_ n4_ n5_ n6_ n7_
                          (try clear hb)
                          (try clear hb2)
                          (try clear hk)
                          (try clear hi)
                          (try clear ho0)
                          obtain ⟨Ao143, co143, eo143⟩ := Kd.R_slice HO764.out
                          (first | subst eo143 | (injection eo143 with f1_ f2_ f3_; have f4_ := f1_.symm; have f5_ := f3_.symm; clear f1_ f2_ f3_; subst f4_; subst f5_))
                          refine hK.out _ _ ⟨(zbaal zbaaz.out 0).trans rfl, (zbaal zbaaz.out 1).trans rfl, (zbaal zbaaz.out 2).trans rfl, (zbaal zbaaz.out 3).trans rfl, (zbaal zbaaz.out 4).trans rfl, (zbaal zbaaw.out 0).trans rfl, (zbaal zbaaw.out 1).trans rfl, (zbaal zbaaw.out 2).trans rfl, (zbaal zbaaw.out 3).trans rfl, (zbaal zbaaw.out 4).trans rfl⟩ (fun hHeld => ?_)
                          clear hK K
                          refine norm_ (a' := ?_) ?_ ?_
                          rotate_left
                          ·show Act.put _ (some 168) _ = _
                           simp only [Act.put, zbaaa, zbaab, zbaac, i64_w, i32_w]
                           rfl
                          refine one_ (i := 16) (N := some 170) zbasq48 rfl rfl (one_of HT_.out (by kernel_rfl)) (by decide) (fun K hK => ?_)
                          refine goes_ Try.func23 (by kernel_rfl) rfl #[.agg #[.int .i64 t758, .bool t759, .int .i64 t760, .string t761, .slice Ao143 t762.length co143], .agg #[.int .i64 ((rd_T36 zbaas (ji102)).f0), .bool false, .int .i64 ((rd_T36 zbaas (ji102)).f2), .string ((rd_T36 zbaas (ji102)).f3), .slice A756_4 ((rd_T36 zbaas (ji102)).f4).length c756_4]] (by rfl) rfl rfl (by (try simp only [zbaan, zbaao, zbaap]); first | done | (simp only [hji102]; rfl) | rfl | (simp only [List.length_drop, List.length_take]; rfl)) ?_
                          with_reducible refine (stowageref13_Same.calls k6 t758 t759 t760 t761 _ _ t762 ((rd_T36 zbaas (ji102)).f0) false ((rd_T36 zbaas (ji102)).f2) ((rd_T36 zbaas (ji102)).f3) _ _ ((rd_T36 zbaas (ji102)).f4) true _ ?side1 ?side2 ?side3 ?side4 A130.out).mono ?_
                          (case side1 => repeat (first | exact (Kd.R_reads' HO764.out).2.2 | (with_reducible refine Kd.C_alloc ?_ _) | (with_reducible refine Kd.C_drewN ?_ _) | (with_reducible refine Kd.C_drew ?_)))
                          (case side2 => exact (Kd.R_reads' HO764.out).2.1)
                          (case side3 => repeat (first | exact ((Kd.V_reads' (by (with_reducible repeat (first | apply Kd.V_alloc | apply Kd.V_drewN | apply Kd.V_drew)); exact HL756_4.out)).2.2) | (with_reducible refine Kd.C_alloc ?_ _) | (with_reducible refine Kd.C_drewN ?_ _) | (with_reducible refine Kd.C_drew ?_)))
                          (case side4 => exact HC756_4.out)
                          rintro e w144 ⟨rfl, hb⟩
                          refine ⟨_, rfl, ?_⟩
                          have n0_ := zbaaq (Kd.V_below (by (with_reducible repeat (first | apply Kd.V_alloc | apply Kd.V_drewN | apply Kd.V_drew)); exact HO_5.out) hb)
                          have n1_ := zbaaq (Kd.N_below (by (with_reducible repeat (first | apply Kd.N_alloc | apply Kd.N_drewN | apply Kd.N_drew)); exact HO_6.out) hb)
                          have n2_ := zbaaq (Kd.R_below (by (with_reducible repeat (first | apply Kd.R_alloc | apply Kd.R_drewN | apply Kd.R_drew)); exact HO753.out) hb)
                          have n3_ := zbaaq (Kd.V_below (by (with_reducible repeat (first | apply Kd.V_alloc | apply Kd.V_drewN | apply Kd.V_drew)); exact HL756_4.out) hb)
                          have n4_ := zbaaq (Kd.R_below (by (with_reducible repeat (first | apply Kd.R_alloc | apply Kd.R_drewN | apply Kd.R_drew)); exact HO764.out) hb)
                          have n5_ := zbaaq (blk_below (g := zbaav) (o := .cells #[.int .i64 t747, .bool t748, .int .i64 t749, .string t750, .slice Ao135 t751.length co135] 24 (0, 0)) (by (with_reducible repeat (first | refine zbaae ?_ _ | refine zbaag ?_ | refine zbaaf ?_ _)); exact zbaaw.out) hb)
                          have n6_ := zbaaq (blk_below (g := zbaat) (o := .cells #[.int .i64 ((rd_T36 zbaas (ji102)).f0), .bool false, .int .i64 ((rd_T36 zbaas (ji102)).f2), .string ((rd_T36 zbaas (ji102)).f3), .slice A756_4 ((rd_T36 zbaas (ji102)).f4).length c756_4] 36 (0, 0)) (by (with_reducible repeat (first | refine zbaae ?_ _ | refine zbaag ?_ | refine zbaaf ?_ _)); exact zbaaz.out) hb)
                          have n7_ := zbaaq (below_step (by repeat (first | (with_reducible first | exact HB.out | apply zbaak | apply zbaai | apply zbaaj | refine zbaah ?_ zbabe.out | refine zbaah ?_ zbabi.out) | exact HB.out)) hb)
                          clear HO_5
                          clear HO_6
                          clear HO753
                          clear HL756_4
                          clear HO764
                          clear zbaaw
                          clear zbaaz
                          clear HB
                          have HO_5 := n0_
                          have HO_6 := n1_
                          have HO753 := n2_
                          have HL756_4 := n3_
                          have HO764 := n4_
                          have zbaaw := n5_
                          have zbaaz := n6_
                          have HB := n7_
                          clear n0_ n1_ n2_ n3_ n4_ n5_ n6_ n7_
                          (try clear hb)
                          (try clear hb2)
                          (try clear hk)
                          (try clear hi)
                          refine hK.out _ _ ⟨(zbaal zbaaz.out 0).trans rfl, (zbaal zbaaz.out 1).trans rfl, (zbaal zbaaz.out 2).trans rfl, (zbaal zbaaz.out 3).trans rfl, (zbaal zbaaz.out 4).trans rfl, (zbaal zbaaw.out 0).trans rfl, (zbaal zbaaw.out 1).trans rfl, (zbaal zbaaw.out 2).trans rfl, (zbaal zbaaw.out 3).trans rfl, (zbaal zbaaw.out 4).trans rfl⟩ (fun hHeld => ?_)
                          clear hK K
                          refine norm_ (a' := ?_) ?_ ?_
                          rotate_left
                          ·show Act.put _ (some 170) _ = _
                           simp only [Act.put, zbaaa, zbaab, zbaac, i64_w, i32_w]
                           rfl
                          refine pure_ (i := 17) (N := some 171) (v := ?_) (a' := ?_) zbasq49 rfl rfl (any_of HT_.out (by kernel_rfl)) (fun _ _ _ h => h) (Or.inl ⟨by rfl, ?_⟩) ?_ ?_
                          rotate_left
                          ·intro w'
                           go_simp
                           with_reducible rfl
                          rotate_left
                          ·simp only [Act.put, zbaaa, zbaab, zbaac, i64_w, i32_w]
                           rfl
                          refine pure_ (i := 18) (N := some 172) (v := ?_) (a' := ?_) zbasq50 rfl rfl (any_of HT_.out (by kernel_rfl)) (fun _ _ _ h => h) (Or.inl ⟨by rfl, ?_⟩) ?_ ?_
                          rotate_left
                          ·intro w'
                           go_simp
                           with_reducible rfl
                          rotate_left
                          ·simp only [Act.put, zbaaa, zbaab, zbaac, i64_w, i32_w]
                           rfl
                          refine pure_ (i := 19) (N := some 173) (v := ?_) (a' := ?_) zbasq51 rfl rfl (any_of HT_.out (by kernel_rfl)) (fun _ _ _ h => h) (Or.inl ⟨by rfl, ?_⟩) ?_ ?_
                          rotate_left
                          ·intro w'
                           go_simp
                           with_reducible rfl
                          rotate_left
                          ·simp only [Act.put, zbaaa, zbaab, zbaac, i64_w, i32_w]
                           rfl
                          refine pure_ (i := 20) (N := some 174) (v := ?_) (a' := ?_) zbasq52 rfl rfl (any_of HT_.out (by kernel_rfl)) (fun _ _ _ h => h) (Or.inl ⟨by rfl, ?_⟩) ?_ ?_
                          rotate_left
                          ·intro w'
                           go_simp
                           with_reducible rfl
                          rotate_left
                          ·simp only [Act.put, zbaaa, zbaab, zbaac, i64_w, i32_w]
                           rfl
                          refine done_ (done_of HT_.out (by kernel_rfl)) ?_
                          try go_wp2
                          go_roundg k6
                          case measure => have := HK1.out; have := HJ5.out; have := HJ11.out; have := HJ20.out; have := HJ28.out; have := HK6.out; omega
                          case rel => exact ⟨(zbabb), (zbaas), (wrap64 (zbaau + 1)), (by first | rfl | (simp; done) | (simp [*]; done)), H', ⟨by have := HK1.out; have := HJ5.out; have := HJ11.out; have := HJ20.out; have := HJ28.out; have := HK6.out; omega⟩, ⟨by (with_reducible repeat (first | apply Kd.V_alloc | apply Kd.V_drewN | apply Kd.V_drew)); exact Kd.V_mono HO_5.out (fun _ hk => hk.1.1)⟩, ⟨by (with_reducible repeat (first | apply Kd.N_alloc | apply Kd.N_drewN | apply Kd.N_drew)); exact Kd.N_mono HO_6.out (fun _ hk => trivial)⟩, ⟨by repeat (first | (with_reducible first | exact HB.out | apply zbaak | apply zbaai | apply zbaaj | refine zbaah ?_ zbabe.out | refine zbaah ?_ zbabi.out) | exact HB.out)⟩⟩
                         ·replace c131 := Bool.eq_false_iff.mpr c131
                          subst c131
                          have H1 : (some false) = some r := by rw [if_neg (show ¬ (false = true) by decide)] at H; exact H
                          clear H
                          have H := H1
                          clear H1
                          exact absurd ((Option.some.inj H).trans HTR.out) Bool.false_ne_true
                        ·rw [if_neg c128] at H
                         have c128b0 : (t754 == 0) = false := beq_eq_false_iff_ne.mpr c128
                         have c128b1 : (t754 != 0) = true := bne_iff_ne.mpr c128
                         exact absurd ((Option.some.inj H).trans HTR.out) Bool.false_ne_true
                     ·rw [if_neg c104] at H
                      exact absurd H (by simp)
                    ·rw [if_neg c103] at H
                     exact absurd H (by simp)
               ·rw [if_neg c57] at H
                have c57b0 : ((zbabb.length : Int) == (zbaas.length : Int)) = false := beq_eq_false_iff_ne.mpr c57
                have c57b1 : ((zbabb.length : Int) != (zbaas.length : Int)) = true := bne_iff_ne.mpr c57
                have c57b2 : (zbabb.length == zbaas.length) = false := by first | simpa using c57 | (simp at c57 ⊢; omega)
                exact absurd ((Option.some.inj H).trans HTR.out) Bool.false_ne_true
        ·rw [if_neg c10] at H
         exact absurd H (by simp)
       ·rw [if_neg c9] at H
        exact absurd H (by simp)
      ·replace c8 := Bool.eq_false_iff.mpr c8
       subst c8
       have H1 : (some true) = some r := by rw [if_neg (show ¬ (false = true) by decide)] at H; exact H
       clear H
       have H := H1
       clear H1
       obtain rfl := Option.some.inj H
       go_wp2
       go_ret
       exact ⟨by first | rfl | (simp [errW_none, errW_some] <;> rfl) | (simp [*, errW_none, errW_some] <;> rfl), by repeat (first | (with_reducible first | exact HB.out | apply zbaak | apply zbaai | apply zbaaj) | exact HB.out)⟩
 ·replace c4 := Bool.eq_false_iff.mpr c4
  subst c4
  have H1 : (some false) = some r := by rw [if_neg (show ¬ (false = true) by decide)] at H; exact H
  clear H
  have H := H1
  clear H1
  exact absurd ((Option.some.inj H).trans HTR.out) Bool.false_ne_true
end Go.Proofs.Ytmpnaaegahjfkaa.Q