

/- Written by a program of this session (wip/patch_print.py over the kit's print): functions of the given program as plain Lean functions, and that each call does what its function says, under no further conditions. -/
import Derived.Test.YtabngibognlmoaaQx0
import Derived.Test.YtabngibognlmoaaQx11
import Derived.Test.YtabngibognlmoaaQx14
namespace Go.Proofs.Ytabngibognlmoaa.Q
open Go.RowKit Go.Proofs.YtabngibognlmoaaW.PrintWords Go.Proofs.YtabngibognlmoaaW.PrintLast Go.Proofs.YtabngibognlmoaaW.PrintMore
attribute [local go_sem] max2_int min2_int max_two min_two max_three min_three max_four min_four   -- for this text's walks alone
set_option linter.unusedVariables false
set_option linter.unusedSimpArgs false
attribute [local go_sem] xor_ones_u8 xor_ones_u16 xor_ones_u32 xor_ones_u64 cell_twice frozen_twice
abbrev zpaa := @List.setIfInBounds_toArray
abbrev zpab := @List.set_cons_zero
abbrev zpac := @List.set_cons_succ
abbrev zpad := @blk_drewN
abbrev zpae := @blk_alloc
abbrev zpaf := @blk_drew
abbrev zpag := @below_set
abbrev zpah := @pw_below_drewN
abbrev zpai := @below_drew1
abbrev zpaj := @below_alloc
abbrev zpak := @blk_cell
abbrev zpal := @blk_frozen
abbrev zpam := @Nat.ne_of_lt
abbrev zpan := @Nat.ne_of_gt
abbrev zpao := @Aside0.mk
abbrev zpsq0 : Array Bool := #[false, false, false, false, false, false, false, false, false, false, false, false, false, false]
abbrev zpsq1 : Array Bool := #[false, true, false, false, false, false, false, false, false, false, false, false, false, false]
abbrev zpsq2 : Array Bool := #[false, true, false, true, false, false, false, false, false, false, false, false, false, false]
abbrev zpsq3 : Array Bool := #[false, true, false, true, false, false, true, false, false, false, false, false, false, false]
abbrev zpsq4 : Array Bool := #[false, true, false, true, false, false, true, false, true, false, false, false, false, false]
abbrev zpsq5 : Array Bool := #[false, true, false, true, false, false, true, false, true, true, false, false, false, false]
abbrev zpsq6 : Array Bool := #[false, true, true, true, false, false, true, false, true, true, false, false, false, false]
abbrev zpsq7 : Array Bool := #[false, true, true, true, true, false, true, false, true, true, false, false, false, false]
abbrev zpsq8 : Array Bool := #[false, true, true, true, true, false, true, true, true, true, false, false, false, false]
abbrev zpsq9 : Array Bool := #[false, true, true, true, true, false, true, true, true, true, true, false, false, false]
abbrev zpsq10 : Array Bool := #[true, true, true, true, true, false, true, true, true, true, true, false, false, false]
abbrev zpsq11 : Array Bool := #[true, true, true, true, true, true, true, true, true, true, true, false, false, false]
abbrev zpsq12 : Array Bool := #[true, true, true, true, true, true, true, true, true, true, true, true, false, false]
abbrev zpsq13 : Array Bool := #[true, true, true, true, true, true, true, true, true, true, true, true, true, false]
abbrev zpsq14 : Array Bool := #[true, true, true, true, true, true, true, true, true, true, true, true, true, true]
/-! ### stowageref04_Disk_Make: function 44 -/
def stowageref04_Disk_Make.l0 : Nat → List (S86) → Int → List (S48) → List (S86) → Int → Bool → List (S90) → Int → Option ((List (S48)) × (List (S86)) × Int × Bool × (List (S90)) × Int × Int)
 | 0, _, _, _, _, _, _, _, _ => none
 | k + 1, x7, x8, zpbv, zpby, zpbu, zpbw, zpbl, zpbx => if x8 < (zpbl.length : Int) then (if 0 ≤ x8 then (if ((rd_T90 zpbl x8).f0) = zpbu then ((some (([] : List (S90)) : List (S90))).bind fun y332 => (if x8 ≤ (zpbl.length : Int) then ((some (zpbl.take (x8 : Int).toNat : List (S90))).bind fun y335 => (if y332.length + y335.length < 5864062014805 then ((some (y332 ++ y335 : List (S90))).bind fun y340 => (if 0 ≤ (wrap64 (x8 + 1)) then (if (wrap64 (x8 + 1)) ≤ (zpbl.length : Int) then ((some (zpbl.drop ((wrap64 (x8 + 1)) : Int).toNat : List (S90))).bind fun y343 => (if y340.length + y343.length < 5864062014805 then ((stowageref04_Disk_Fail.f k zpbv x7 zpbu zpbw (y340 ++ y343) zpbx ((rd_T90 zpbl x8).f1) ((rd_T90 zpbl x8).f2)).bind fun bt351 => (some (bt351.1, bt351.2.1, bt351.2.2.1, bt351.2.2.2.1, bt351.2.2.2.2.1, bt351.2.2.2.2.2, 21))) else (none))) else (none)) else (none))) else (none))) else (none))) else (stowageref04_Disk_Make.l0 k x7 (wrap64 (x8 + 1)) zpbv zpby zpbu zpbw zpbl zpbx)) else (none)) else (some (zpbv, x7, wrap64 (zpbu + 1), zpbw, zpbl, zpbx, 0))
def stowageref04_Disk_Make.f (k : Nat) (l0_0 : List (S48)) (l0_1 : List (S86)) (a0_2 : Int) (a0_3 : Bool) (l0_4 : List (S90)) (a0_5 : Int) (a1_0 : Int) (a1_1 : ByteArray) (a1_2 : ByteArray) (a1_3 : ByteArray) (a1_4 : Int) : Option ((List (S48)) × (List (S86)) × Int × Bool × (List (S90)) × Int × Int) := (stowageref04_Disk_Wrong.f k l0_0 l0_1 a0_2 a0_3 l0_4 a0_5 a1_0 a1_1 a1_2 a1_3 a1_4).bind fun t317 => (if t317 = 0 then ((some (([] : List (S86)) : List (S86))).bind fun y318 => (if y318.length + l0_1.length < 2199023255552 then ((some (y318 ++ l0_1 : List (S86))).bind fun y321 => ((some (([(⟨a1_0, a1_1, a1_2, a1_3, a1_4⟩ : S86)] : List (S86)) : List (S86))).bind fun y324 => (if y321.length + y324.length < 2199023255552 then (stowageref04_Disk_Make.l0 k (y321 ++ y324) 0 l0_0 l0_1 a0_2 a0_3 l0_4 a0_5) else (none)))) else (none))) else (some (l0_0, l0_1, a0_2, a0_3, l0_4, a0_5, t317)))
def stowageref04_Disk_Make.T4 : Bool × List (List Nat × List Nat) := (true, [([], []), ([], []), ([1], [1]), ([0, 2], [0, 2]), ([], []), ([4], [4]), ([3, 5, 3], [3, 5]), ([6, 6, 0, 1, 2, 3, 4, 5, 6], [6])])
def stowageref04_Disk_Make.B4 : List Nat := [0, 0, 2, 7, 0, 16, 63, 127]
theorem stowageref04_Disk_Make.tab4 : rtab .any (opsOf Try.f44 4) = stowageref04_Disk_Make.T4 := by kernel_rfl
theorem stowageref04_Disk_Make.bits4 : waitsOk stowageref04_Disk_Make.T4.2 stowageref04_Disk_Make.B4 = true := by kernel_rfl
def stowageref04_Disk_Make.T10 : Bool × List (List Nat × List Nat) := (true, [([], []), ([], []), ([1], [1]), ([], []), ([2, 3], [2, 3]), ([0, 4], [0, 4]), ([], []), ([6], [6]), ([], []), ([8], [8]), ([7, 9], [7, 9]), ([5, 10, 5], [5, 10]), ([0, 1, 2, 3, 4, 5, 6, 7, 8, 9, 10, 11], []), ([12, 11, 11, 0, 1, 2, 3, 4, 5, 6, 7, 8, 9, 10, 11], [11, 12])])
def stowageref04_Disk_Make.B10 : List Nat := [0, 0, 2, 0, 14, 31, 0, 64, 0, 256, 960, 2047, 4095, 8191]
theorem stowageref04_Disk_Make.tab10 : rtab .any (opsOf Try.f44 10) = stowageref04_Disk_Make.T10 := by kernel_rfl
theorem stowageref04_Disk_Make.bits10 : waitsOk stowageref04_Disk_Make.T10.2 stowageref04_Disk_Make.B10 = true := by kernel_rfl
set_option maxHeartbeats 8000000 in
set_option maxRecDepth 100000 in
theorem stowageref04_Disk_Make.calls (k : Nat) (P0_0_ : Nat → Prop) (A0_0 : Option Addr) (c0_0 : Nat) (l0_0 : List (S48)) (P0_1_ : Nat → Prop) (A0_1 : Option Addr) (c0_1 : Nat) (l0_1 : List (S86)) (a0_2 : Int) (a0_3 : Bool) (P0_4_ : Nat → Prop) (A0_4 : Option Addr) (c0_4 : Nat) (l0_4 : List (S90)) (a0_5 : Int) (a1_0 : Int) (a1_1 : ByteArray) (a1_2 : ByteArray) (a1_3 : ByteArray) (a1_4 : Int) (r1 : List (S48)) (r2 : List (S86)) (r3 : Int) (r4 : Bool) (r5 : List (S90)) (r6 : Int) (r7 : Int) (w : World) (hs0_0 : Kd.V k48 48 w w.heap.size (fun k_ => P0_0_ k_) (.slice A0_0 l0_0.length c0_0) l0_0) (hs0_1 : Kd.V k86 86 w w.heap.size (fun k_ => P0_1_ k_) (.slice A0_1 l0_1.length c0_1) l0_1) (hs0_4 : Kd.V k90 90 w w.heap.size (fun k_ => P0_4_ k_) (.slice A0_4 l0_4.length c0_4) l0_4) (h : stowageref04_Disk_Make.f k l0_0 l0_1 a0_2 a0_3 l0_4 a0_5 a1_0 a1_1 a1_2 a1_3 a1_4 = some (r1, r2, r3, r4, r5, r6, r7)) :
  Calls Try.prog 44 #[.agg #[.slice A0_0 l0_0.length c0_0, .slice A0_1 l0_1.length c0_1, .int .i64 a0_2, .bool a0_3, .slice A0_4 l0_4.length c0_4, .int .i64 a0_5], .agg #[.int .i64 a1_0, .string a1_1, .string a1_2, .string a1_3, .int .i64 a1_4]] w fun e w' => ∃ v0_ v1_ v4_ : Value, e = .returned (.tuple #[.agg #[v0_, v1_, .int .i64 r3, .bool r4, v4_, .int .i64 r6], .int .i64 r7]) ∧ Kd.V k48 48 w' w.heap.size (fun k_ => ((P0_0_ k_ ∨ P0_1_ k_ ∨ P0_4_ k_) ∨ w.heap.size ≤ k_)) v0_ r1 ∧ Kd.V k86 86 w' w.heap.size (fun k_ => ((P0_0_ k_ ∨ P0_1_ k_ ∨ P0_4_ k_) ∨ w.heap.size ≤ k_)) v1_ r2 ∧ Kd.V k90 90 w' w.heap.size (fun k_ => ((P0_0_ k_ ∨ P0_1_ k_ ∨ P0_4_ k_) ∨ w.heap.size ≤ k_)) v4_ r5 ∧ Below w.heap.size w w' := by
 have hu57 := Try.underlying57
 have hu86 := Try.underlying86
 have hu90 := Try.underlying90
 have HO0_0 := zpao (show Kd.V k48 48 w w.heap.size (fun k_ => ((P0_0_ k_ ∨ P0_1_ k_ ∨ P0_4_ k_) ∨ w.heap.size ≤ k_)) (.slice A0_0 l0_0.length c0_0) l0_0 from Kd.V_mono hs0_0 (fun k_ hk => .inl (.inl hk)))
 have HO0_1 := zpao (show Kd.V k86 86 w w.heap.size (fun k_ => ((P0_0_ k_ ∨ P0_1_ k_ ∨ P0_4_ k_) ∨ w.heap.size ≤ k_)) (.slice A0_1 l0_1.length c0_1) l0_1 from Kd.V_mono hs0_1 (fun k_ hk => .inl (.inr (.inl hk))))
 have HO0_4 := zpao (show Kd.V k90 90 w w.heap.size (fun k_ => ((P0_0_ k_ ∨ P0_1_ k_ ∨ P0_4_ k_) ∨ w.heap.size ≤ k_)) (.slice A0_4 l0_4.length c0_4) l0_4 from Kd.V_mono hs0_4 (fun k_ hk => .inl (.inr (.inr hk))))
 have HB := zpao (Below.refl w.heap.size w)
 have H : ((stowageref04_Disk_Wrong.f k l0_0 l0_1 a0_2 a0_3 l0_4 a0_5 a1_0 a1_1 a1_2 a1_3 a1_4).bind fun t317 => (if t317 = 0 then ((some (([] : List (S86)) : List (S86))).bind fun y318 => (if y318.length + l0_1.length < 2199023255552 then ((some (y318 ++ l0_1 : List (S86))).bind fun y321 => ((some (([(⟨a1_0, a1_1, a1_2, a1_3, a1_4⟩ : S86)] : List (S86)) : List (S86))).bind fun y324 => (if y321.length + y324.length < 2199023255552 then (stowageref04_Disk_Make.l0 k (y321 ++ y324) 0 l0_0 l0_1 a0_2 a0_3 l0_4 a0_5) else (none)))) else (none))) else (some (l0_0, l0_1, a0_2, a0_3, l0_4, a0_5, t317)))) = some (r1, r2, r3, r4, r5, r6, r7) := h
 clear h
 replace H := Option.bind_eq_some_iff.mp H
 obtain ⟨t317, A30, H⟩ := H
 replace H : (if t317 = 0 then ((some (([] : List (S86)) : List (S86))).bind fun y318 => (if y318.length + l0_1.length < 2199023255552 then ((some (y318 ++ l0_1 : List (S86))).bind fun y321 => ((some (([(⟨a1_0, a1_1, a1_2, a1_3, a1_4⟩ : S86)] : List (S86)) : List (S86))).bind fun y324 => (if y321.length + y324.length < 2199023255552 then (stowageref04_Disk_Make.l0 k (y321 ++ y324) 0 l0_0 l0_1 a0_2 a0_3 l0_4 a0_5) else (none)))) else (none))) else (some (l0_0, l0_1, a0_2, a0_3, l0_4, a0_5, t317))) = some (r1, r2, r3, r4, r5, r6, r7) := H
 have A3 := zpao A30
 clear A30
 by_cases c4 : t317 = 0
 ·rw [if_pos c4] at H
  have c4b0 : (t317 == 0) = true := beq_iff_eq.mpr c4
  have c4b1 : (t317 != 0) = false := bne_eq_false_iff_eq.mpr c4
  clear c4
  obtain ⟨y318, hy318⟩ : ∃ y_ : List (S86), y_ = (([] : List (S86))) := ⟨_, rfl⟩
  replace H : (if y318.length + l0_1.length < 2199023255552 then ((some (y318 ++ l0_1 : List (S86))).bind fun y321 => ((some (([(⟨a1_0, a1_1, a1_2, a1_3, a1_4⟩ : S86)] : List (S86)) : List (S86))).bind fun y324 => (if y321.length + y324.length < 2199023255552 then (stowageref04_Disk_Make.l0 k (y321 ++ y324) 0 l0_0 l0_1 a0_2 a0_3 l0_4 a0_5) else (none)))) else (none)) = some (r1, r2, r3, r4, r5, r6, r7) := by first | (rw [hy318]; with_reducible exact H) | (have H2_ := (Option.bind_some _ _).symm.trans H; rw [hy318]; with_reducible exact H2_) | (have H2_ := (Option.bind_some _ _).symm.trans H; with_reducible exact H2_) | with_reducible exact H | (rw [hy318]; exact H) | exact H
  have Ny318 := zpao hy318
  clear hy318
  by_cases c5 : y318.length + l0_1.length < 2199023255552
  ·rw [if_pos c5] at H
   have LMc5 := zpao c5
   clear c5
   obtain ⟨y321, hy321⟩ : ∃ y_ : List (S86), y_ = (y318 ++ l0_1) := ⟨_, rfl⟩
   replace H : ((some (([(⟨a1_0, a1_1, a1_2, a1_3, a1_4⟩ : S86)] : List (S86)) : List (S86))).bind fun y324 => (if y321.length + y324.length < 2199023255552 then (stowageref04_Disk_Make.l0 k (y321 ++ y324) 0 l0_0 l0_1 a0_2 a0_3 l0_4 a0_5) else (none))) = some (r1, r2, r3, r4, r5, r6, r7) := by first | (rw [hy321]; with_reducible exact H) | (have H2_ := (Option.bind_some _ _).symm.trans H; rw [hy321]; with_reducible exact H2_) | (have H2_ := (Option.bind_some _ _).symm.trans H; with_reducible exact H2_) | with_reducible exact H | (rw [hy321]; exact H) | exact H
   have Ny321 := zpao hy321
   clear hy321
   obtain ⟨y324, hy324⟩ : ∃ y_ : List (S86), y_ = (([(⟨a1_0, a1_1, a1_2, a1_3, a1_4⟩ : S86)] : List (S86))) := ⟨_, rfl⟩
   replace H : (if y321.length + y324.length < 2199023255552 then (stowageref04_Disk_Make.l0 k (y321 ++ y324) 0 l0_0 l0_1 a0_2 a0_3 l0_4 a0_5) else (none)) = some (r1, r2, r3, r4, r5, r6, r7) := by first | (rw [hy324]; with_reducible exact H) | (have H2_ := (Option.bind_some _ _).symm.trans H; rw [hy324]; with_reducible exact H2_) | (have H2_ := (Option.bind_some _ _).symm.trans H; with_reducible exact H2_) | with_reducible exact H | (rw [hy324]; exact H) | exact H
   have Ny324 := zpao hy324
   clear hy324
   by_cases c6 : y321.length + y324.length < 2199023255552
   ·rw [if_pos c6] at H
    have LMc6 := zpao c6
    clear c6
    obtain ⟨y327, hy327⟩ : ∃ y_ : List (S86), y_ = (y321 ++ y324) := ⟨_, rfl⟩
    replace H : (stowageref04_Disk_Make.l0 k y327 0 l0_0 l0_1 a0_2 a0_3 l0_4 a0_5) = some (r1, r2, r3, r4, r5, r6, r7) := by first | (rw [hy327]; with_reducible exact H) | (have H2_ := (Option.bind_some _ _).symm.trans H; rw [hy327]; with_reducible exact H2_) | (have H2_ := (Option.bind_some _ _).symm.trans H; with_reducible exact H2_) | with_reducible exact H | (rw [hy327]; exact H) | exact H
    have Ny327 := zpao hy327
    clear hy327
    have H' := zpao H
    clear H
    go_enter Try.func44, Try.ntmps44
    try go_wp2_with (first | ((with_reducible refine gate_dst (N := 2) rfl ?_); refine box_event ?hg (N := 2) ?hd (cs := #[.slice A0_0 l0_0.length c0_0, .slice A0_1 l0_1.length c0_1, .int .i64 a0_2, .bool a0_3, .slice A0_4 l0_4.length c0_4, .int .i64 a0_5]) (t := 57) ?hr ?_; (case hd => rfl); (case hg => rfl); (case hr => first | (go_simp; done) | (go_simp; rfl)); intro zpar hg w7 hbox hb; have n0_ := zpao (Kd.V_below (Kd.V_elderB (zvk HO0_0) zpar (Nat.le_of_eq hg.symm)) hb); have n1_ := zpao (Kd.V_below (Kd.V_elderB (zvk HO0_1) zpar (Nat.le_of_eq hg.symm)) hb); have n2_ := zpao (Kd.V_below (Kd.V_elderB (zvk HO0_4) zpar (Nat.le_of_eq hg.symm)) hb); have n3_ := zpao (below_step (by repeat (first | (with_reducible first | exact HB.out | apply zpaj | apply zpah | apply zpai) | exact HB.out)) hb); have n4_ := zpao (hbox); have n5_ := zpao ((by rw [hg]; exact (below_size (by repeat (first | (with_reducible first | exact HB.out | apply zpaj | apply zpah | apply zpai) | exact HB.out))) : w.heap.size ≤ zpar)); have n6_ := zpao ((by rw [hg]; exact (below_size (by repeat (first | (with_reducible first | exact HB.out | apply zpaj | apply zpah | apply zpai) | exact HB.out))) : w.heap.size ≤ zpar)); clear HO0_0; clear HO0_1; clear HO0_4; clear HB; have HO0_0 := n0_; have HO0_1 := n1_; have HO0_4 := n2_; have HB := n3_; have zpap := n4_; have zpcv := n5_; have zpay := n6_; clear n0_ n1_ n2_ n3_ n4_ n5_ n6_; clear hb hbox hg) | ((with_reducible refine gate_dst (N := 3) rfl ?_); refine box_event ?hg (N := 3) ?hd (cs := #[.int .i64 a1_0, .string a1_1, .string a1_2, .string a1_3, .int .i64 a1_4]) (t := 86) ?hr ?_; (case hd => rfl); (case hg => rfl); (case hr => first | (go_simp; done) | (go_simp; rfl)); intro zpav hg w8 hbox hb; have n0_ := zpao (Kd.V_below (Kd.V_elderB (zvk HO0_0) zpav (Nat.le_of_eq hg.symm)) hb); have n1_ := zpao (Kd.V_below (Kd.V_elderB (zvk HO0_1) zpav (Nat.le_of_eq hg.symm)) hb); have n2_ := zpao (Kd.V_below (Kd.V_elderB (zvk HO0_4) zpav (Nat.le_of_eq hg.symm)) hb); have n3_ := zpao (blk_below (g := zpar) (o := .cells #[.slice A0_0 l0_0.length c0_0, .slice A0_1 l0_1.length c0_1, .int .i64 a0_2, .bool a0_3, .slice A0_4 l0_4.length c0_4, .int .i64 a0_5] 57 (0, 0)) (zbk zpap) hb); have n4_ := zpao (below_step (by repeat (first | (with_reducible first | exact HB.out | apply zpaj | apply zpah | apply zpai | refine zpag ?_ zpay.out) | exact HB.out)) hb); have n5_ := zpao (hbox); have n6_ := zpao ((by rw [hg]; exact (below_size (by repeat (first | (with_reducible first | exact HB.out | apply zpaj | apply zpah | apply zpai | refine zpag ?_ zpay.out) | exact HB.out))) : w.heap.size ≤ zpav)); have n7_ := zpao ((by rw [hg]; exact (below_size (by repeat (first | (with_reducible first | exact HB.out | apply zpaj | apply zpah | apply zpai | refine zpag ?_ zpay.out) | exact HB.out))) : w.heap.size ≤ zpav)); have n8_ := zpao ((by rw [hg]; exact zpam (blk_lt (g := zpar) (o := .cells #[.slice A0_0 l0_0.length c0_0, .slice A0_1 l0_1.length c0_1, .int .i64 a0_2, .bool a0_3, .slice A0_4 l0_4.length c0_4, .int .i64 a0_5] 57 (0, 0)) (zbk zpap)) : zpar ≠ zpav)); have n9_ := zpao ((by rw [hg]; exact zpan (blk_lt (g := zpar) (o := .cells #[.slice A0_0 l0_0.length c0_0, .slice A0_1 l0_1.length c0_1, .int .i64 a0_2, .bool a0_3, .slice A0_4 l0_4.length c0_4, .int .i64 a0_5] 57 (0, 0)) (zbk zpap)) : zpav ≠ zpar)); clear HO0_0; clear HO0_1; clear HO0_4; clear zpap; clear HB; have HO0_0 := n0_; have HO0_1 := n1_; have HO0_4 := n2_; have zpap := n3_; have HB := n4_; have zpas := n5_; have zpcw := n6_; have zpaz := n7_; have zpbm := n8_; have zpbi := n9_; clear n0_ n1_ n2_ n3_ n4_ n5_ n6_ n7_ n8_ n9_; clear hb hbox hg) | ((with_reducible refine gate_dst (N := 4) rfl ?_); refine box_event ?hg (N := 4) ?hd (cs := #[.slice none 0 0, .slice none 0 0, .int .i64 0, .bool false, .slice none 0 0, .int .i64 0]) (t := 57) ?hr ?_; (case hd => rfl); (case hg => rfl); (case hr => first | (go_simp; done) | (go_simp; rfl)); intro zpat hg w9 hbox hb; have n0_ := zpao (Kd.V_below (Kd.V_elderB (zvk HO0_0) zpat (Nat.le_of_eq hg.symm)) hb); have n1_ := zpao (Kd.V_below (Kd.V_elderB (zvk HO0_1) zpat (Nat.le_of_eq hg.symm)) hb); have n2_ := zpao (Kd.V_below (Kd.V_elderB (zvk HO0_4) zpat (Nat.le_of_eq hg.symm)) hb); have n3_ := zpao (blk_below (g := zpar) (o := .cells #[.slice A0_0 l0_0.length c0_0, .slice A0_1 l0_1.length c0_1, .int .i64 a0_2, .bool a0_3, .slice A0_4 l0_4.length c0_4, .int .i64 a0_5] 57 (0, 0)) (zbk zpap) hb); have n4_ := zpao (blk_below (g := zpav) (o := .cells #[.int .i64 a1_0, .string a1_1, .string a1_2, .string a1_3, .int .i64 a1_4] 86 (0, 0)) (zbk zpas) hb); have n5_ := zpao (below_step (by repeat (first | (with_reducible first | exact HB.out | apply zpaj | apply zpah | apply zpai | refine zpag ?_ zpay.out | refine zpag ?_ zpaz.out) | exact HB.out)) hb); have n6_ := zpao (hbox); have n7_ := zpao ((by rw [hg]; exact (below_size (by repeat (first | (with_reducible first | exact HB.out | apply zpaj | apply zpah | apply zpai | refine zpag ?_ zpay.out | refine zpag ?_ zpaz.out) | exact HB.out))) : w.heap.size ≤ zpat)); have n8_ := zpao ((by rw [hg]; exact (below_size (by repeat (first | (with_reducible first | exact HB.out | apply zpaj | apply zpah | apply zpai | refine zpag ?_ zpay.out | refine zpag ?_ zpaz.out) | exact HB.out))) : w.heap.size ≤ zpat)); have n9_ := zpao ((by rw [hg]; exact zpam (blk_lt (g := zpar) (o := .cells #[.slice A0_0 l0_0.length c0_0, .slice A0_1 l0_1.length c0_1, .int .i64 a0_2, .bool a0_3, .slice A0_4 l0_4.length c0_4, .int .i64 a0_5] 57 (0, 0)) (zbk zpap)) : zpar ≠ zpat)); have n10_ := zpao ((by rw [hg]; exact zpan (blk_lt (g := zpar) (o := .cells #[.slice A0_0 l0_0.length c0_0, .slice A0_1 l0_1.length c0_1, .int .i64 a0_2, .bool a0_3, .slice A0_4 l0_4.length c0_4, .int .i64 a0_5] 57 (0, 0)) (zbk zpap)) : zpat ≠ zpar)); have n11_ := zpao ((by rw [hg]; exact zpam (blk_lt (g := zpav) (o := .cells #[.int .i64 a1_0, .string a1_1, .string a1_2, .string a1_3, .int .i64 a1_4] 86 (0, 0)) (zbk zpas)) : zpav ≠ zpat)); have n12_ := zpao ((by rw [hg]; exact zpan (blk_lt (g := zpav) (o := .cells #[.int .i64 a1_0, .string a1_1, .string a1_2, .string a1_3, .int .i64 a1_4] 86 (0, 0)) (zbk zpas)) : zpat ≠ zpav)); clear HO0_0; clear HO0_1; clear HO0_4; clear zpap; clear zpas; clear HB; have HO0_0 := n0_; have HO0_1 := n1_; have HO0_4 := n2_; have zpap := n3_; have zpas := n4_; have HB := n5_; have zpau := n6_; have zpcx := n7_; have zpbb := n8_; have zpbn := n9_; have zpbg := n10_; have zpbq := n11_; have zpbr := n12_; clear n0_ n1_ n2_ n3_ n4_ n5_ n6_ n7_ n8_ n9_ n10_ n11_ n12_; clear hb hbox hg; have hnb10 := zpbm.out; have hnc10 := zpbi.out; have hnb11 := zpbn.out; have hnc11 := zpbg.out; have zpbz : w9.cell? ⟨zpar, 0, none⟩ = some (.slice A0_0 l0_0.length c0_0) := (zpak zpap.out 0).trans rfl; have zpca : w9.cell? ⟨zpar, 1, none⟩ = some (.slice A0_1 l0_1.length c0_1) := (zpak zpap.out 1).trans rfl; have zpcb : w9.cell? ⟨zpar, 2, none⟩ = some (.int .i64 a0_2) := (zpak zpap.out 2).trans rfl; have zpcc : w9.cell? ⟨zpar, 3, none⟩ = some (.bool a0_3) := (zpak zpap.out 3).trans rfl; have zpcd : w9.cell? ⟨zpar, 4, none⟩ = some (.slice A0_4 l0_4.length c0_4) := (zpak zpap.out 4).trans rfl; have zpce : w9.cell? ⟨zpar, 5, none⟩ = some (.int .i64 a0_5) := (zpak zpap.out 5).trans rfl; have zpcf := zpal zpap.out 0; have zpcg := zpal zpap.out 1; have zpch := zpal zpap.out 2; have zpci := zpal zpap.out 3; have zpcj := zpal zpap.out 4; have zpck := zpal zpap.out 5; have hnb13 := zpbq.out; have hnc13 := zpbr.out; have zpcl : w9.cell? ⟨zpav, 0, none⟩ = some (.int .i64 a1_0) := (zpak zpas.out 0).trans rfl; have zpcm : w9.cell? ⟨zpav, 1, none⟩ = some (.string a1_1) := (zpak zpas.out 1).trans rfl; have zpcn : w9.cell? ⟨zpav, 2, none⟩ = some (.string a1_2) := (zpak zpas.out 2).trans rfl; have zpco : w9.cell? ⟨zpav, 3, none⟩ = some (.string a1_3) := (zpak zpas.out 3).trans rfl; have zpcp : w9.cell? ⟨zpav, 4, none⟩ = some (.int .i64 a1_4) := (zpak zpas.out 4).trans rfl; have zpcq := zpal zpas.out 0; have zpcr := zpal zpas.out 1; have zpcs := zpal zpas.out 2; have zpct := zpal zpas.out 3; have zpcu := zpal zpas.out 4) | ((with_reducible refine gate_callee (f := 57) rfl ?_); refine goesL_ (some 12) rfl rfl Try.func57 (by kernel_rfl) rfl #[.agg #[.slice A0_0 l0_0.length c0_0, .slice A0_1 l0_1.length c0_1, .int .i64 a0_2, .bool a0_3, .slice A0_4 l0_4.length c0_4, .int .i64 a0_5], .agg #[.int .i64 a1_0, .string a1_1, .string a1_2, .string a1_3, .int .i64 a1_4]] rfl (by (try simp only [List.map_toArray, List.map_cons, List.map_nil]); first | done | rfl) ?_; (with_reducible refine (stowageref04_Disk_Wrong.calls k _ _ l0_0 _ _ l0_1 a0_2 a0_3 _ _ l0_4 a0_5 a1_0 a1_1 a1_2 a1_3 a1_4 t317 _ ?side1 ?side2 ?side3 ?side4 ?side5 ?side6 A3.out).mono ?_); (case side1 => repeat (first | exact (Kd.V_reads' HO0_0.out).2.2 | (with_reducible refine Kd.C_alloc ?_ _) | (with_reducible refine Kd.C_drewN ?_ _) | (with_reducible refine Kd.C_drew ?_))); (case side2 => exact (Kd.V_reads' HO0_0.out).2.1); (case side3 => repeat (first | exact (Kd.V_reads' HO0_1.out).2.2 | (with_reducible refine Kd.C_alloc ?_ _) | (with_reducible refine Kd.C_drewN ?_ _) | (with_reducible refine Kd.C_drew ?_))); (case side4 => exact (Kd.V_reads' HO0_1.out).2.1); (case side5 => repeat (first | exact (Kd.V_reads' HO0_4.out).2.2 | (with_reducible refine Kd.C_alloc ?_ _) | (with_reducible refine Kd.C_drewN ?_ _) | (with_reducible refine Kd.C_drew ?_))); (case side6 => exact (Kd.V_reads' HO0_4.out).2.1); rintro e w15 ⟨rfl, hb⟩; refine ⟨_, rfl, ?_⟩; have n0_ := zpao (Kd.V_below (zvk HO0_0) hb); have n1_ := zpao (Kd.V_below (zvk HO0_1) hb); have n2_ := zpao (Kd.V_below (zvk HO0_4) hb); have n3_ := zpao (blk_below (g := zpar) (o := .cells #[.slice A0_0 l0_0.length c0_0, .slice A0_1 l0_1.length c0_1, .int .i64 a0_2, .bool a0_3, .slice A0_4 l0_4.length c0_4, .int .i64 a0_5] 57 (0, 0)) (zbk zpap) hb); have n4_ := zpao (blk_below (g := zpav) (o := .cells #[.int .i64 a1_0, .string a1_1, .string a1_2, .string a1_3, .int .i64 a1_4] 86 (0, 0)) (zbk zpas) hb); have n5_ := zpao (blk_below (g := zpat) (o := .cells #[.slice none 0 0, .slice none 0 0, .int .i64 0, .bool false, .slice none 0 0, .int .i64 0] 57 (0, 0)) (zbk zpau) hb); have n6_ := zpao (below_step (by repeat (first | (with_reducible first | exact HB.out | apply zpaj | apply zpah | apply zpai | refine zpag ?_ zpay.out | refine zpag ?_ zpaz.out | refine zpag ?_ zpbb.out) | exact HB.out)) hb); clear HO0_0; clear HO0_1; clear HO0_4; clear zpap; clear zpas; clear zpau; clear HB; have HO0_0 := n0_; have HO0_1 := n1_; have HO0_4 := n2_; have zpap := n3_; have zpas := n4_; have zpau := n5_; have HB := n6_; clear n0_ n1_ n2_ n3_ n4_ n5_ n6_; (try clear hb); (try clear hk); (try clear hi)))
    have n0_ := zpao (Kd.V_drew HO0_0.out)
    have n1_ := zpao (Kd.V_drew HO0_1.out)
    have n2_ := zpao (Kd.V_drew HO0_4.out)
    have n3_ := zpao (zpaf zpap.out)
    have n4_ := zpao (zpaf zpas.out)
    have n5_ := zpao (zpaf zpau.out)
    have n6_ := zpao (zpai HB.out)
    clear HO0_0
    clear HO0_1
    clear HO0_4
    clear zpap
    clear zpas
    clear zpau
    clear HB
    have HO0_0 := n0_
    have HO0_1 := n1_
    have HO0_4 := n2_
    have zpap := n3_
    have zpas := n4_
    have zpau := n5_
    have HB := n6_
    clear n0_ n1_ n2_ n3_ n4_ n5_ n6_
    refine start_ (n := 8) (S := fun w' => w'.cell? ⟨zpar, 0, none⟩ = some (.slice A0_0 l0_0.length c0_0) ∧ w'.cell? ⟨zpar, 1, none⟩ = some (.slice A0_1 l0_1.length c0_1) ∧ w'.cell? ⟨zpar, 2, none⟩ = some (.int .i64 a0_2) ∧ w'.cell? ⟨zpar, 3, none⟩ = some (.bool a0_3) ∧ w'.cell? ⟨zpar, 4, none⟩ = some (.slice A0_4 l0_4.length c0_4) ∧ w'.cell? ⟨zpar, 5, none⟩ = some (.int .i64 a0_5) ∧ w'.cell? ⟨zpav, 0, none⟩ = some (.int .i64 a1_0) ∧ w'.cell? ⟨zpav, 1, none⟩ = some (.string a1_1) ∧ w'.cell? ⟨zpav, 2, none⟩ = some (.string a1_2) ∧ w'.cell? ⟨zpav, 3, none⟩ = some (.string a1_3) ∧ w'.cell? ⟨zpav, 4, none⟩ = some (.int .i64 a1_4)) (ds := []) #[false, false, false, false, false, false, false, false] (by kernel_rfl) rfl rfl ⟨(zpak zpap.out 0).trans rfl, (zpak zpap.out 1).trans rfl, (zpak zpap.out 2).trans rfl, (zpak zpap.out 3).trans rfl, (zpak zpap.out 4).trans rfl, (zpak zpap.out 5).trans rfl, (zpak zpas.out 0).trans rfl, (zpak zpas.out 1).trans rfl, (zpak zpas.out 2).trans rfl, (zpak zpas.out 3).trans rfl, (zpak zpas.out 4).trans rfl⟩ (fun hHeld => ?_); refine with_tabW stowageref04_Disk_Make.tab4 stowageref04_Disk_Make.bits4 (fun HT_ HW_ => ?_)
    generalize w15.drew = w16 at HO0_0 HO0_1 HO0_4 zpap zpas zpau HB hHeld ⊢
    refine pure_ (i := 1) (N := some 18) (v := ?_) (a' := ?_) #[false, true, false, false, false, false, false, false] rfl rfl (any_of HT_.out (by kernel_rfl)) (fun _ _ _ h => h) (Or.inl ⟨by rfl, ?_⟩) ?_ ?_
    rotate_left
    ·intro w'
     go_simp
     with_reducible rfl
    rotate_left
    ·simp only [Act.put, zpaa, zpab, zpac, i64_w, i32_w]
     rfl
    refine take_ (i := 2) (N := some 19) (v := ?_) (a' := ?_) #[false, true, true, false, false, false, false, false] rfl rfl (take_ofW HT_.out HW_.out (by kernel_rfl)) (fun _ _ _ h => h) (Or.inl ⟨by rfl, ?_⟩) hHeld ?_ ?_
    rotate_left
    ·rintro w' ⟨s0, s1, s2, s3, s4, s5, s6, s7, s8, s9, s10⟩
     go_simp
     with_reducible rfl
    rotate_left
    ·simp only [Act.put, zpaa, zpab, zpac, i64_w, i32_w]
     rfl
    refine take_ (i := 4) (N := some 21) (v := ?_) (a' := ?_) #[false, true, true, false, true, false, false, false] rfl rfl (take_ofW HT_.out HW_.out (by kernel_rfl)) (fun _ _ _ h => h) (Or.inl ⟨by rfl, ?_⟩) hHeld ?_ ?_
    rotate_left
    ·rintro w' ⟨s0, s1, s2, s3, s4, s5, s6, s7, s8, s9, s10⟩
     go_simp
     with_reducible rfl
    rotate_left
    ·simp only [Act.put, zpaa, zpab, zpac, i64_w, i32_w]
     rfl
    refine join_ (σ := Value × Value × Value) 2 #[true, true, true, true, true, true, false, false] (fun s_ => [(17, s_.1), (20, s_.2.1), (22, s_.2.2)]) (fun s_ w' => (w'.cell? ⟨zpar, 0, none⟩ = some (.slice A0_0 l0_0.length c0_0) ∧ w'.cell? ⟨zpar, 1, none⟩ = some (.slice A0_1 l0_1.length c0_1) ∧ w'.cell? ⟨zpar, 2, none⟩ = some (.int .i64 a0_2) ∧ w'.cell? ⟨zpar, 3, none⟩ = some (.bool a0_3) ∧ w'.cell? ⟨zpar, 4, none⟩ = some (.slice A0_4 l0_4.length c0_4) ∧ w'.cell? ⟨zpar, 5, none⟩ = some (.int .i64 a0_5) ∧ w'.cell? ⟨zpav, 0, none⟩ = some (.int .i64 a1_0) ∧ w'.cell? ⟨zpav, 1, none⟩ = some (.string a1_1) ∧ w'.cell? ⟨zpav, 2, none⟩ = some (.string a1_2) ∧ w'.cell? ⟨zpav, 3, none⟩ = some (.string a1_3) ∧ w'.cell? ⟨zpav, 4, none⟩ = some (.int .i64 a1_4)) ∧ (Kd.V k48 48 w' w.heap.size (fun k_ => ((P0_0_ k_ ∨ P0_1_ k_ ∨ P0_4_ k_) ∨ w.heap.size ≤ k_) ∧ some k_ ≠ (s_.2.1 : Value).ownBlock ∧ some k_ ≠ (s_.2.2 : Value).ownBlock ∧ k_ ≠ zpar ∧ k_ ≠ zpav ∧ k_ ≠ zpat) (.slice A0_0 l0_0.length c0_0) l0_0) ∧ (Kd.V k86 86 w' w.heap.size (fun k_ => ((P0_0_ k_ ∨ P0_1_ k_ ∨ P0_4_ k_) ∨ w.heap.size ≤ k_) ∧ some k_ ≠ (s_.2.1 : Value).ownBlock ∧ some k_ ≠ (s_.2.2 : Value).ownBlock ∧ k_ ≠ zpar ∧ k_ ≠ zpav ∧ k_ ≠ zpat) (.slice A0_1 l0_1.length c0_1) l0_1) ∧ (Kd.V k90 90 w' w.heap.size (fun k_ => ((P0_0_ k_ ∨ P0_1_ k_ ∨ P0_4_ k_) ∨ w.heap.size ≤ k_) ∧ some k_ ≠ (s_.2.1 : Value).ownBlock ∧ some k_ ≠ (s_.2.2 : Value).ownBlock ∧ k_ ≠ zpar ∧ k_ ≠ zpav ∧ k_ ≠ zpat) (.slice A0_4 l0_4.length c0_4) l0_4) ∧ (Kd.R k86 86 w' w.heap.size (fun k_ => (w.heap.size ≤ k_) ∧ some k_ ≠ (s_.2.2 : Value).ownBlock ∧ k_ ≠ zpav) s_.2.1 y321) ∧ (Kd.R k86 86 w' w.heap.size (fun k_ => (w.heap.size ≤ k_) ∧ some k_ ≠ (s_.2.1 : Value).ownBlock ∧ k_ ≠ zpav) s_.2.2 y324) ∧ (w'.heap[zpar]? = some (.cells #[.slice A0_0 l0_0.length c0_0, .slice A0_1 l0_1.length c0_1, .int .i64 a0_2, .bool a0_3, .slice A0_4 l0_4.length c0_4, .int .i64 a0_5] 57 (0, 0))) ∧ (w'.heap[zpav]? = some (.cells #[.int .i64 a1_0, .string a1_1, .string a1_2, .string a1_3, .int .i64 a1_4] 86 (0, 0))) ∧ (w'.heap[zpat]? = some (.cells #[.slice none 0 0, .slice none 0 0, .int .i64 0, .bool false, .slice none 0 0, .int .i64 0] 57 (0, 0))) ∧ (Below w.heap.size w w')) ?_ ?_
    rotate_left
    ·intro hCont
     refine two_ (i := 0) (j := 5) (Ni := some 17) (Nj := some 22) #[true, true, true, false, true, false, false, false] #[false, true, true, false, true, true, false, false] rfl rfl rfl rfl (two_of HT_.out (by kernel_rfl)) (by decide) (by decide) (fun K hK => ?_) (fun K hK => ?_)
     ·skip
      refine Kd.R_lit_step k86 _ 86 ?hg (N := 17) ?hd (xs := ([] : List (S86))) (inner := []) (ok := fun _ => True) (okp := fun _ => True) ?hr ?hp (fun _ hk => hk) trivial (Below.refl _ _) (Nat.le_refl _) (by simp) ?_; (case hd => rfl); (case hg => rfl); (case hr => first | (go_simp; done) | (go_simp; rfl)); (case hp => exact (Reps.none _ _))
      intro v319 w17 ho18 hb hg_ hnew_
      clear hg_ hnew_
      (first | rw [← Ny318.out] at ho18 | (simp only [Int.reduceToNat] at ho18; rw [← Ny318.out] at ho18))
      have n0_ := zpao (Kd.V_elder' (zvk HO0_0) (Kd.R_base ho18) hb)
      have n1_ := zpao (Kd.V_elder' (zvk HO0_1) (Kd.R_base ho18) hb)
      have n2_ := zpao (Kd.V_elder' (zvk HO0_4) (Kd.R_base ho18) hb)
      have n3_ := zpao (Kd.R_lower (Kd.R_newB (Kd.R_newM (M := fun k_ => (w.heap.size ≤ k_)) ho18 (below_size (by repeat (first | (with_reducible first | exact HB.out | apply zpaj | apply zpah | apply zpai | refine zpag ?_ zpay.out | refine zpag ?_ zpaz.out | refine zpag ?_ zpbb.out) | exact HB.out))) (fun k_ h_ => h_)) (g := zpav) (o := .cells #[.int .i64 a1_0, .string a1_1, .string a1_2, .string a1_3, .int .i64 a1_4] 86 (0, 0)) (zbk zpas)) (below_size (by repeat (first | (with_reducible first | exact HB.out | apply zpaj | apply zpah | apply zpai | refine zpag ?_ zpay.out | refine zpag ?_ zpaz.out | refine zpag ?_ zpbb.out) | exact HB.out))))
      have n4_ := zpao (blk_below (g := zpar) (o := .cells #[.slice A0_0 l0_0.length c0_0, .slice A0_1 l0_1.length c0_1, .int .i64 a0_2, .bool a0_3, .slice A0_4 l0_4.length c0_4, .int .i64 a0_5] 57 (0, 0)) (zbk zpap) hb)
      have n5_ := zpao (blk_below (g := zpav) (o := .cells #[.int .i64 a1_0, .string a1_1, .string a1_2, .string a1_3, .int .i64 a1_4] 86 (0, 0)) (zbk zpas) hb)
      have n6_ := zpao (blk_below (g := zpat) (o := .cells #[.slice none 0 0, .slice none 0 0, .int .i64 0, .bool false, .slice none 0 0, .int .i64 0] 57 (0, 0)) (zbk zpau) hb)
      have n7_ := zpao (below_step (by repeat (first | (with_reducible first | exact HB.out | apply zpaj | apply zpah | apply zpai | refine zpag ?_ zpay.out | refine zpag ?_ zpaz.out | refine zpag ?_ zpbb.out) | exact HB.out)) hb)
      clear HO0_0
      clear HO0_1
      clear HO0_4
      clear zpap
      clear zpas
      clear zpau
      clear HB
      have HO0_0 := n0_
      have HO0_1 := n1_
      have HO0_4 := n2_
      have HO320 := n3_
      have zpap := n4_
      have zpas := n5_
      have zpau := n6_
      have HB := n7_
      clear n0_ n1_ n2_ n3_ n4_ n5_ n6_ n7_
      clear hb ho18
      refine hK.out _ _ ⟨(zpak zpap.out 0).trans rfl, (zpak zpap.out 1).trans rfl, (zpak zpap.out 2).trans rfl, (zpak zpap.out 3).trans rfl, (zpak zpap.out 4).trans rfl, (zpak zpap.out 5).trans rfl, (zpak zpas.out 0).trans rfl, (zpak zpas.out 1).trans rfl, (zpak zpas.out 2).trans rfl, (zpak zpas.out 3).trans rfl, (zpak zpas.out 4).trans rfl⟩ (fun hHeld => ?_)
      clear hK K
      refine norm_ (a' := ?_) ?_ ?_
      rotate_left
      ·show Act.put _ (some 17) _ = _
       simp only [Act.put, zpaa, zpab, zpac, i64_w, i32_w]
       rfl
      refine two_ (i := 3) (j := 5) (Ni := some 20) (Nj := some 22) #[true, true, true, true, true, false, false, false] #[true, true, true, false, true, true, false, false] rfl rfl rfl rfl (two_of HT_.out (by kernel_rfl)) (by decide) (by decide) (fun K hK => ?_) (fun K hK => ?_)
      ·skip
       refine Kd.R_append_rows_step k86 (w0 := w) w.heap.size (by rfl) (.tmp 17) (.tmp 19) 54 86 (.agg #[(.int .i64 0), (.string ⟨#[]⟩), (.string ⟨#[]⟩), (.string ⟨#[]⟩), (.int .i64 0)]) 64 rfl Try.underlying54 info86 rfl (by decide) (by omega) v319 y318 l0_1 _ _ _ (fun k_ => (w.heap.size ≤ k_) ∧ k_ ≠ zpav) (fun _ => False) rfl rfl ?aO ?aR (fun _ _ h => h) (fun _ h => h.elim) ?aF ?aB ?aS ?aL ?_
       (case aR => repeat (first | exact (Kd.V_reads' HO0_1.out).2.2 | (with_reducible refine Kd.C_alloc ?_ _) | (with_reducible refine Kd.C_drewN ?_ _) | (with_reducible refine Kd.C_drew ?_)))
       (case aB => exact (by repeat (first | (with_reducible first | exact HB.out | apply zpaj | apply zpah | apply zpai | refine zpag ?_ zpay.out | refine zpag ?_ zpaz.out | refine zpag ?_ zpbb.out) | exact HB.out)))
       (case aF => exact (fun k_ hk => ⟨(Nat.le_trans (below_size (by repeat (first | (with_reducible first | exact HB.out | apply zpaj | apply zpah | apply zpai | refine zpag ?_ zpay.out | refine zpag ?_ zpaz.out | refine zpag ?_ zpbb.out) | exact HB.out))) hk), Kd.freshB (g := zpav) (o := .cells #[.int .i64 a1_0, .string a1_1, .string a1_2, .string a1_3, .int .i64 a1_4] 86 (0, 0)) (zbk zpas) k_ hk⟩))
       (case aO => exact (by (with_reducible repeat (first | apply Kd.R_alloc | apply Kd.R_drewN | apply Kd.R_drew)); exact Kd.R_mono HO320.out (fun _ hk => ⟨hk.1.1, hk.2⟩)))
       (case aS => exact (below_size (by repeat (first | (with_reducible first | exact HB.out | apply zpaj | apply zpah | apply zpai | refine zpag ?_ zpay.out | refine zpag ?_ zpaz.out | refine zpag ?_ zpbb.out) | exact HB.out))))
       (case aL => have := LMc5.out; omega)
       intro v322 w19 ho hb hg hat
       rw [← Ny321.out] at ho
       have n0_ := zpao (Kd.V_afterv (ok := (fun k_ => ((P0_0_ k_ ∨ P0_1_ k_ ∨ P0_4_ k_) ∨ w.heap.size ≤ k_) ∧ k_ ≠ zpar ∧ k_ ≠ zpav ∧ k_ ≠ zpat)) (by (with_reducible repeat (first | apply Kd.V_alloc | apply Kd.V_drewN | apply Kd.V_drew)); exact Kd.V_mono HO0_0.out (fun _ hk => ⟨⟨hk.1.1.1.1, ⟨hk.1.1.1.2, ⟨hk.1.1.2, hk.1.2⟩⟩⟩, hk.2⟩)) hg hat)
       have n1_ := zpao (Kd.V_afterv (ok := (fun k_ => ((P0_0_ k_ ∨ P0_1_ k_ ∨ P0_4_ k_) ∨ w.heap.size ≤ k_) ∧ k_ ≠ zpar ∧ k_ ≠ zpav ∧ k_ ≠ zpat)) (by (with_reducible repeat (first | apply Kd.V_alloc | apply Kd.V_drewN | apply Kd.V_drew)); exact Kd.V_mono HO0_1.out (fun _ hk => ⟨⟨hk.1.1.1.1, ⟨hk.1.1.1.2, ⟨hk.1.1.2, hk.1.2⟩⟩⟩, hk.2⟩)) hg hat)
       have n2_ := zpao (Kd.V_afterv (ok := (fun k_ => ((P0_0_ k_ ∨ P0_1_ k_ ∨ P0_4_ k_) ∨ w.heap.size ≤ k_) ∧ k_ ≠ zpar ∧ k_ ≠ zpav ∧ k_ ≠ zpat)) (by (with_reducible repeat (first | apply Kd.V_alloc | apply Kd.V_drewN | apply Kd.V_drew)); exact Kd.V_mono HO0_4.out (fun _ hk => ⟨⟨hk.1.1.1.1, ⟨hk.1.1.1.2, ⟨hk.1.1.2, hk.1.2⟩⟩⟩, hk.2⟩)) hg hat)
       have n3_ := zpao (blk_grown (g := zpar) (o := .cells #[.slice A0_0 l0_0.length c0_0, .slice A0_1 l0_1.length c0_1, .int .i64 a0_2, .bool a0_3, .slice A0_4 l0_4.length c0_4, .int .i64 a0_5] 57 (0, 0)) (zbk zpap) hg (Kd.R_ne HO320.out zpap.out (by decide)))
       have n4_ := zpao (blk_grown (g := zpav) (o := .cells #[.int .i64 a1_0, .string a1_1, .string a1_2, .string a1_3, .int .i64 a1_4] 86 (0, 0)) (zbk zpas) hg (Kd.R_away HO320.out (fun _ hk => hk.2)))
       have n5_ := zpao (blk_grown (g := zpat) (o := .cells #[.slice none 0 0, .slice none 0 0, .int .i64 0, .bool false, .slice none 0 0, .int .i64 0] 57 (0, 0)) (zbk zpau) hg (Kd.R_ne HO320.out zpau.out (by decide)))
       have n6_ := zpao (hb)
       have n7_ := zpao (ho)
       clear HO0_0
       clear HO0_1
       clear HO0_4
       clear zpap
       clear zpas
       clear zpau
       clear HB
       clear HO320
       have HO0_0 := n0_
       have HO0_1 := n1_
       have HO0_4 := n2_
       have zpap := n3_
       have zpas := n4_
       have zpau := n5_
       have HB := n6_
       have HO323 := n7_
       clear n0_ n1_ n2_ n3_ n4_ n5_ n6_ n7_
       clear ho hb hg hat
       refine hK.out _ _ ⟨(zpak zpap.out 0).trans rfl, (zpak zpap.out 1).trans rfl, (zpak zpap.out 2).trans rfl, (zpak zpap.out 3).trans rfl, (zpak zpap.out 4).trans rfl, (zpak zpap.out 5).trans rfl, (zpak zpas.out 0).trans rfl, (zpak zpas.out 1).trans rfl, (zpak zpas.out 2).trans rfl, (zpak zpas.out 3).trans rfl, (zpak zpas.out 4).trans rfl⟩ (fun hHeld => ?_)
       clear hK K
       refine norm_ (a' := ?_) ?_ ?_
       rotate_left
       ·show Act.put _ (some 20) _ = _
        simp only [Act.put, zpaa, zpab, zpac, i64_w, i32_w]
        rfl
       refine one_ (i := 5) (N := some 22) #[true, true, true, true, true, true, false, false] rfl rfl (one_of HT_.out (by kernel_rfl)) (by decide) (fun K hK => ?_)
       refine Kd.R_lit_step k86 _ 86 ?hg (N := 22) ?hd (xs := ([(⟨a1_0, a1_1, a1_2, a1_3, a1_4⟩ : S86)] : List (S86))) (inner := [.int .i64 a1_0, .string a1_1, .string a1_2, .string a1_3, .int .i64 a1_4]) (ok := fun _ => True) (okp := fun _ => True) ?hr ?hp (fun _ hk => hk) trivial (Below.refl _ _) (Nat.le_refl _) (by simp) ?_; (case hd => rfl); (case hg => rfl); (case hr => first | (go_simp; done) | (go_simp; rfl)); (case hp => exact (Reps.c5 (show Kd.M k86 _ _ _ (⟨a1_0, a1_1, a1_2, a1_3, a1_4⟩ : S86) [.int .i64 a1_0, .string a1_1, .string a1_2, .string a1_3, .int .i64 a1_4] from (k86_mkM _ _ _ (⟨a1_0, a1_1, a1_2, a1_3, a1_4⟩ : S86) )) (Reps.none _ _)))
       intro v325 w20 ho21 hb hg_ hnew_
       clear hg_ hnew_
       (first | rw [← Ny324.out] at ho21 | (simp only [Int.reduceToNat] at ho21; rw [← Ny324.out] at ho21))
       have n0_ := zpao (Kd.V_elder' (zvk HO0_0) (Kd.R_base ho21) hb)
       have n1_ := zpao (Kd.V_elder' (zvk HO0_1) (Kd.R_base ho21) hb)
       have n2_ := zpao (Kd.V_elder' (zvk HO0_4) (Kd.R_base ho21) hb)
       have n3_ := zpao (Kd.R_elder' (zrk HO323) (Kd.R_base ho21) hb)
       have n4_ := zpao (Kd.R_lower (Kd.R_newB (Kd.R_new' (Kd.R_newM (M := fun k_ => (w.heap.size ≤ k_)) ho21 (below_size (by repeat (first | (with_reducible first | exact HB.out | apply zpaj | apply zpah | apply zpai | refine zpag ?_ zpay.out | refine zpag ?_ zpaz.out | refine zpag ?_ zpbb.out) | exact HB.out))) (fun k_ h_ => h_)) (Kd.R_lt (zrk HO323))) (g := zpav) (o := .cells #[.int .i64 a1_0, .string a1_1, .string a1_2, .string a1_3, .int .i64 a1_4] 86 (0, 0)) (zbk zpas)) (below_size (by repeat (first | (with_reducible first | exact HB.out | apply zpaj | apply zpah | apply zpai | refine zpag ?_ zpay.out | refine zpag ?_ zpaz.out | refine zpag ?_ zpbb.out) | exact HB.out))))
       have n5_ := zpao (blk_below (g := zpar) (o := .cells #[.slice A0_0 l0_0.length c0_0, .slice A0_1 l0_1.length c0_1, .int .i64 a0_2, .bool a0_3, .slice A0_4 l0_4.length c0_4, .int .i64 a0_5] 57 (0, 0)) (zbk zpap) hb)
       have n6_ := zpao (blk_below (g := zpav) (o := .cells #[.int .i64 a1_0, .string a1_1, .string a1_2, .string a1_3, .int .i64 a1_4] 86 (0, 0)) (zbk zpas) hb)
       have n7_ := zpao (blk_below (g := zpat) (o := .cells #[.slice none 0 0, .slice none 0 0, .int .i64 0, .bool false, .slice none 0 0, .int .i64 0] 57 (0, 0)) (zbk zpau) hb)
       have n8_ := zpao (below_step (by repeat (first | (with_reducible first | exact HB.out | apply zpaj | apply zpah | apply zpai | refine zpag ?_ zpay.out | refine zpag ?_ zpaz.out | refine zpag ?_ zpbb.out) | exact HB.out)) hb)
       clear HO0_0
       clear HO0_1
       clear HO0_4
       clear HO323
       clear zpap
       clear zpas
       clear zpau
       clear HB
       have HO0_0 := n0_
       have HO0_1 := n1_
       have HO0_4 := n2_
       have HO323 := n3_
       have HO326 := n4_
       have zpap := n5_
       have zpas := n6_
       have zpau := n7_
       have HB := n8_
       clear n0_ n1_ n2_ n3_ n4_ n5_ n6_ n7_ n8_
       clear hb ho21
       refine hK.out _ _ ⟨(zpak zpap.out 0).trans rfl, (zpak zpap.out 1).trans rfl, (zpak zpap.out 2).trans rfl, (zpak zpap.out 3).trans rfl, (zpak zpap.out 4).trans rfl, (zpak zpap.out 5).trans rfl, (zpak zpas.out 0).trans rfl, (zpak zpas.out 1).trans rfl, (zpak zpas.out 2).trans rfl, (zpak zpas.out 3).trans rfl, (zpak zpas.out 4).trans rfl⟩ (fun hHeld => ?_)
       clear hK K
       refine norm_ (a' := ?_) ?_ ?_
       rotate_left
       ·show Act.put _ (some 22) _ = _
        simp only [Act.put, zpaa, zpab, zpac, i64_w, i32_w]
        rfl
       exact norm_ (by simp only [putAll, Act.put, zpaa, zpab, zpac]) (hCont (v319, v322, v325) _ ⟨hHeld, (by (with_reducible repeat (first | apply Kd.V_alloc | apply Kd.V_drewN | apply Kd.V_drew)); exact Kd.V_mono HO0_0.out (fun _ hk => ⟨hk.1.1.1, ⟨hk.1.2, ⟨hk.2, ⟨hk.1.1.2.1, ⟨hk.1.1.2.2.1, hk.1.1.2.2.2⟩⟩⟩⟩⟩)), (by (with_reducible repeat (first | apply Kd.V_alloc | apply Kd.V_drewN | apply Kd.V_drew)); exact Kd.V_mono HO0_1.out (fun _ hk => ⟨hk.1.1.1, ⟨hk.1.2, ⟨hk.2, ⟨hk.1.1.2.1, ⟨hk.1.1.2.2.1, hk.1.1.2.2.2⟩⟩⟩⟩⟩)), (by (with_reducible repeat (first | apply Kd.V_alloc | apply Kd.V_drewN | apply Kd.V_drew)); exact Kd.V_mono HO0_4.out (fun _ hk => ⟨hk.1.1.1, ⟨hk.1.2, ⟨hk.2, ⟨hk.1.1.2.1, ⟨hk.1.1.2.2.1, hk.1.1.2.2.2⟩⟩⟩⟩⟩)), (by (with_reducible repeat (first | apply Kd.R_alloc | apply Kd.R_drewN | apply Kd.R_drew)); exact Kd.R_mono HO323.out (fun _ hk => ⟨hk.1.1, ⟨hk.2, hk.1.2⟩⟩)), (by (with_reducible repeat (first | apply Kd.R_alloc | apply Kd.R_drewN | apply Kd.R_drew)); exact Kd.R_mono HO326.out (fun _ hk => ⟨hk.1.1.1, ⟨hk.1.2, hk.2⟩⟩)), (zbk zpap), (zbk zpas), (zbk zpau), (by repeat (first | (with_reducible first | exact HB.out | apply zpaj | apply zpah | apply zpai | refine zpag ?_ zpay.out | refine zpag ?_ zpaz.out | refine zpag ?_ zpbb.out) | exact HB.out))⟩)
      ·skip
       refine Kd.R_lit_step k86 _ 86 ?hg (N := 22) ?hd (xs := ([(⟨a1_0, a1_1, a1_2, a1_3, a1_4⟩ : S86)] : List (S86))) (inner := [.int .i64 a1_0, .string a1_1, .string a1_2, .string a1_3, .int .i64 a1_4]) (ok := fun _ => True) (okp := fun _ => True) ?hr ?hp (fun _ hk => hk) trivial (Below.refl _ _) (Nat.le_refl _) (by simp) ?_; (case hd => rfl); (case hg => rfl); (case hr => first | (go_simp; done) | (go_simp; rfl)); (case hp => exact (Reps.c5 (show Kd.M k86 _ _ _ (⟨a1_0, a1_1, a1_2, a1_3, a1_4⟩ : S86) [.int .i64 a1_0, .string a1_1, .string a1_2, .string a1_3, .int .i64 a1_4] from (k86_mkM _ _ _ (⟨a1_0, a1_1, a1_2, a1_3, a1_4⟩ : S86) )) (Reps.none _ _)))
       intro v325 w19 ho20 hb hg_ hnew_
       clear hg_ hnew_
       (first | rw [← Ny324.out] at ho20 | (simp only [Int.reduceToNat] at ho20; rw [← Ny324.out] at ho20))
       have n0_ := zpao (Kd.V_elder' (zvk HO0_0) (Kd.R_base ho20) hb)
       have n1_ := zpao (Kd.V_elder' (zvk HO0_1) (Kd.R_base ho20) hb)
       have n2_ := zpao (Kd.V_elder' (zvk HO0_4) (Kd.R_base ho20) hb)
       have n3_ := zpao (Kd.R_elder' (zrk HO320) (Kd.R_base ho20) hb)
       have n4_ := zpao (Kd.R_lower (Kd.R_newB (Kd.R_new' (Kd.R_newM (M := fun k_ => (w.heap.size ≤ k_)) ho20 (below_size (by repeat (first | (with_reducible first | exact HB.out | apply zpaj | apply zpah | apply zpai | refine zpag ?_ zpay.out | refine zpag ?_ zpaz.out | refine zpag ?_ zpbb.out) | exact HB.out))) (fun k_ h_ => h_)) (Kd.R_lt (zrk HO320))) (g := zpav) (o := .cells #[.int .i64 a1_0, .string a1_1, .string a1_2, .string a1_3, .int .i64 a1_4] 86 (0, 0)) (zbk zpas)) (below_size (by repeat (first | (with_reducible first | exact HB.out | apply zpaj | apply zpah | apply zpai | refine zpag ?_ zpay.out | refine zpag ?_ zpaz.out | refine zpag ?_ zpbb.out) | exact HB.out))))
       have n5_ := zpao (blk_below (g := zpar) (o := .cells #[.slice A0_0 l0_0.length c0_0, .slice A0_1 l0_1.length c0_1, .int .i64 a0_2, .bool a0_3, .slice A0_4 l0_4.length c0_4, .int .i64 a0_5] 57 (0, 0)) (zbk zpap) hb)
       have n6_ := zpao (blk_below (g := zpav) (o := .cells #[.int .i64 a1_0, .string a1_1, .string a1_2, .string a1_3, .int .i64 a1_4] 86 (0, 0)) (zbk zpas) hb)
       have n7_ := zpao (blk_below (g := zpat) (o := .cells #[.slice none 0 0, .slice none 0 0, .int .i64 0, .bool false, .slice none 0 0, .int .i64 0] 57 (0, 0)) (zbk zpau) hb)
       have n8_ := zpao (below_step (by repeat (first | (with_reducible first | exact HB.out | apply zpaj | apply zpah | apply zpai | refine zpag ?_ zpay.out | refine zpag ?_ zpaz.out | refine zpag ?_ zpbb.out) | exact HB.out)) hb)
       clear HO0_0
       clear HO0_1
       clear HO0_4
       clear HO320
       clear zpap
       clear zpas
       clear zpau
       clear HB
       have HO0_0 := n0_
       have HO0_1 := n1_
       have HO0_4 := n2_
       have HO320 := n3_
       have HO326 := n4_
       have zpap := n5_
       have zpas := n6_
       have zpau := n7_
       have HB := n8_
       clear n0_ n1_ n2_ n3_ n4_ n5_ n6_ n7_ n8_
       clear hb ho20
       refine hK.out _ _ ⟨(zpak zpap.out 0).trans rfl, (zpak zpap.out 1).trans rfl, (zpak zpap.out 2).trans rfl, (zpak zpap.out 3).trans rfl, (zpak zpap.out 4).trans rfl, (zpak zpap.out 5).trans rfl, (zpak zpas.out 0).trans rfl, (zpak zpas.out 1).trans rfl, (zpak zpas.out 2).trans rfl, (zpak zpas.out 3).trans rfl, (zpak zpas.out 4).trans rfl⟩ (fun hHeld => ?_)
       clear hK K
       refine norm_ (a' := ?_) ?_ ?_
       rotate_left
       ·show Act.put _ (some 22) _ = _
        simp only [Act.put, zpaa, zpab, zpac, i64_w, i32_w]
        rfl
       refine one_ (i := 3) (N := some 20) #[true, true, true, true, true, true, false, false] rfl rfl (one_of HT_.out (by kernel_rfl)) (by decide) (fun K hK => ?_)
       refine Kd.R_append_rows_step k86 (w0 := w) w.heap.size (by rfl) (.tmp 17) (.tmp 19) 54 86 (.agg #[(.int .i64 0), (.string ⟨#[]⟩), (.string ⟨#[]⟩), (.string ⟨#[]⟩), (.int .i64 0)]) 64 rfl Try.underlying54 info86 rfl (by decide) (by omega) v319 y318 l0_1 _ _ _ (fun k_ => (w.heap.size ≤ k_) ∧ some k_ ≠ (v325 : Value).ownBlock ∧ k_ ≠ zpav) (fun _ => False) rfl rfl ?aO ?aR (fun _ _ h => h) (fun _ h => h.elim) ?aF ?aB ?aS ?aL ?_
       (case aR => repeat (first | exact (Kd.V_reads' HO0_1.out).2.2 | (with_reducible refine Kd.C_alloc ?_ _) | (with_reducible refine Kd.C_drewN ?_ _) | (with_reducible refine Kd.C_drew ?_)))
       (case aB => exact (by repeat (first | (with_reducible first | exact HB.out | apply zpaj | apply zpah | apply zpai | refine zpag ?_ zpay.out | refine zpag ?_ zpaz.out | refine zpag ?_ zpbb.out) | exact HB.out)))
       (case aF => exact (fun k_ hk => ⟨(Nat.le_trans (below_size (by repeat (first | (with_reducible first | exact HB.out | apply zpaj | apply zpah | apply zpai | refine zpag ?_ zpay.out | refine zpag ?_ zpaz.out | refine zpag ?_ zpbb.out) | exact HB.out))) hk), Kd.fresh' (Kd.R_lt (zrk HO326)) k_ hk, Kd.freshB (g := zpav) (o := .cells #[.int .i64 a1_0, .string a1_1, .string a1_2, .string a1_3, .int .i64 a1_4] 86 (0, 0)) (zbk zpas) k_ hk⟩))
       (case aO => exact (by (with_reducible repeat (first | apply Kd.R_alloc | apply Kd.R_drewN | apply Kd.R_drew)); exact Kd.R_mono HO320.out (fun _ hk => ⟨hk.1.1.1, ⟨hk.2, hk.1.2⟩⟩)))
       (case aS => exact (below_size (by repeat (first | (with_reducible first | exact HB.out | apply zpaj | apply zpah | apply zpai | refine zpag ?_ zpay.out | refine zpag ?_ zpaz.out | refine zpag ?_ zpbb.out) | exact HB.out))))
       (case aL => have := LMc5.out; omega)
       intro v322 w21 ho hb hg hat
       rw [← Ny321.out] at ho
       have n0_ := zpao (Kd.V_afterv (ok := (fun k_ => ((P0_0_ k_ ∨ P0_1_ k_ ∨ P0_4_ k_) ∨ w.heap.size ≤ k_) ∧ some k_ ≠ (v325 : Value).ownBlock ∧ k_ ≠ zpar ∧ k_ ≠ zpav ∧ k_ ≠ zpat)) (by (with_reducible repeat (first | apply Kd.V_alloc | apply Kd.V_drewN | apply Kd.V_drew)); exact Kd.V_mono HO0_0.out (fun _ hk => ⟨⟨hk.1.1.1.1.1, ⟨hk.2, ⟨hk.1.1.1.1.2, ⟨hk.1.1.1.2, hk.1.1.2⟩⟩⟩⟩, hk.1.2⟩)) hg hat)
       have n1_ := zpao (Kd.V_afterv (ok := (fun k_ => ((P0_0_ k_ ∨ P0_1_ k_ ∨ P0_4_ k_) ∨ w.heap.size ≤ k_) ∧ some k_ ≠ (v325 : Value).ownBlock ∧ k_ ≠ zpar ∧ k_ ≠ zpav ∧ k_ ≠ zpat)) (by (with_reducible repeat (first | apply Kd.V_alloc | apply Kd.V_drewN | apply Kd.V_drew)); exact Kd.V_mono HO0_1.out (fun _ hk => ⟨⟨hk.1.1.1.1.1, ⟨hk.2, ⟨hk.1.1.1.1.2, ⟨hk.1.1.1.2, hk.1.1.2⟩⟩⟩⟩, hk.1.2⟩)) hg hat)
       have n2_ := zpao (Kd.V_afterv (ok := (fun k_ => ((P0_0_ k_ ∨ P0_1_ k_ ∨ P0_4_ k_) ∨ w.heap.size ≤ k_) ∧ some k_ ≠ (v325 : Value).ownBlock ∧ k_ ≠ zpar ∧ k_ ≠ zpav ∧ k_ ≠ zpat)) (by (with_reducible repeat (first | apply Kd.V_alloc | apply Kd.V_drewN | apply Kd.V_drew)); exact Kd.V_mono HO0_4.out (fun _ hk => ⟨⟨hk.1.1.1.1.1, ⟨hk.2, ⟨hk.1.1.1.1.2, ⟨hk.1.1.1.2, hk.1.1.2⟩⟩⟩⟩, hk.1.2⟩)) hg hat)
       have n3_ := zpao (blk_grown (g := zpar) (o := .cells #[.slice A0_0 l0_0.length c0_0, .slice A0_1 l0_1.length c0_1, .int .i64 a0_2, .bool a0_3, .slice A0_4 l0_4.length c0_4, .int .i64 a0_5] 57 (0, 0)) (zbk zpap) hg (Kd.R_ne HO320.out zpap.out (by decide)))
       have n4_ := zpao (blk_grown (g := zpav) (o := .cells #[.int .i64 a1_0, .string a1_1, .string a1_2, .string a1_3, .int .i64 a1_4] 86 (0, 0)) (zbk zpas) hg (Kd.R_away HO320.out (fun _ hk => hk.1.2)))
       have n5_ := zpao (blk_grown (g := zpat) (o := .cells #[.slice none 0 0, .slice none 0 0, .int .i64 0, .bool false, .slice none 0 0, .int .i64 0] 57 (0, 0)) (zbk zpau) hg (Kd.R_ne HO320.out zpau.out (by decide)))
       have n6_ := zpao (Kd.R_after (ok := (fun k_ => (w.heap.size ≤ k_) ∧ k_ ≠ zpav)) (by (with_reducible repeat (first | apply Kd.R_alloc | apply Kd.R_drewN | apply Kd.R_drew)); exact Kd.R_mono HO326.out (fun _ hk => ⟨⟨hk.1.1.1, hk.2⟩, hk.1.2⟩)) hg hat)
       have n7_ := zpao (hb)
       have n8_ := zpao (ho)
       clear HO0_0
       clear HO0_1
       clear HO0_4
       clear zpap
       clear zpas
       clear zpau
       clear HO326
       clear HB
       clear HO320
       have HO0_0 := n0_
       have HO0_1 := n1_
       have HO0_4 := n2_
       have zpap := n3_
       have zpas := n4_
       have zpau := n5_
       have HO326 := n6_
       have HB := n7_
       have HO323 := n8_
       clear n0_ n1_ n2_ n3_ n4_ n5_ n6_ n7_ n8_
       clear ho hb hg hat
       refine hK.out _ _ ⟨(zpak zpap.out 0).trans rfl, (zpak zpap.out 1).trans rfl, (zpak zpap.out 2).trans rfl, (zpak zpap.out 3).trans rfl, (zpak zpap.out 4).trans rfl, (zpak zpap.out 5).trans rfl, (zpak zpas.out 0).trans rfl, (zpak zpas.out 1).trans rfl, (zpak zpas.out 2).trans rfl, (zpak zpas.out 3).trans rfl, (zpak zpas.out 4).trans rfl⟩ (fun hHeld => ?_)
       clear hK K
       refine norm_ (a' := ?_) ?_ ?_
       rotate_left
       ·show Act.put _ (some 20) _ = _
        simp only [Act.put, zpaa, zpab, zpac, i64_w, i32_w]
        rfl
       exact norm_ (by simp only [putAll, Act.put, zpaa, zpab, zpac]) (hCont (v319, v322, v325) _ ⟨hHeld, (by (with_reducible repeat (first | apply Kd.V_alloc | apply Kd.V_drewN | apply Kd.V_drew)); exact Kd.V_mono HO0_0.out (fun _ hk => ⟨hk.1.1, ⟨hk.2, ⟨hk.1.2.1, ⟨hk.1.2.2.1, ⟨hk.1.2.2.2.1, hk.1.2.2.2.2⟩⟩⟩⟩⟩)), (by (with_reducible repeat (first | apply Kd.V_alloc | apply Kd.V_drewN | apply Kd.V_drew)); exact Kd.V_mono HO0_1.out (fun _ hk => ⟨hk.1.1, ⟨hk.2, ⟨hk.1.2.1, ⟨hk.1.2.2.1, ⟨hk.1.2.2.2.1, hk.1.2.2.2.2⟩⟩⟩⟩⟩)), (by (with_reducible repeat (first | apply Kd.V_alloc | apply Kd.V_drewN | apply Kd.V_drew)); exact Kd.V_mono HO0_4.out (fun _ hk => ⟨hk.1.1, ⟨hk.2, ⟨hk.1.2.1, ⟨hk.1.2.2.1, ⟨hk.1.2.2.2.1, hk.1.2.2.2.2⟩⟩⟩⟩⟩)), (zrk HO323), (by (with_reducible repeat (first | apply Kd.R_alloc | apply Kd.R_drewN | apply Kd.R_drew)); exact Kd.R_mono HO326.out (fun _ hk => ⟨hk.1.1, ⟨hk.2, hk.1.2⟩⟩)), (zbk zpap), (zbk zpas), (zbk zpau), (by repeat (first | (with_reducible first | exact HB.out | apply zpaj | apply zpah | apply zpai | refine zpag ?_ zpay.out | refine zpag ?_ zpaz.out | refine zpag ?_ zpbb.out) | exact HB.out))⟩)
     ·skip
      refine Kd.R_lit_step k86 _ 86 ?hg (N := 22) ?hd (xs := ([(⟨a1_0, a1_1, a1_2, a1_3, a1_4⟩ : S86)] : List (S86))) (inner := [.int .i64 a1_0, .string a1_1, .string a1_2, .string a1_3, .int .i64 a1_4]) (ok := fun _ => True) (okp := fun _ => True) ?hr ?hp (fun _ hk => hk) trivial (Below.refl _ _) (Nat.le_refl _) (by simp) ?_; (case hd => rfl); (case hg => rfl); (case hr => first | (go_simp; done) | (go_simp; rfl)); (case hp => exact (Reps.c5 (show Kd.M k86 _ _ _ (⟨a1_0, a1_1, a1_2, a1_3, a1_4⟩ : S86) [.int .i64 a1_0, .string a1_1, .string a1_2, .string a1_3, .int .i64 a1_4] from (k86_mkM _ _ _ (⟨a1_0, a1_1, a1_2, a1_3, a1_4⟩ : S86) )) (Reps.none _ _)))
      intro v325 w17 ho18 hb hg_ hnew_
      clear hg_ hnew_
      (first | rw [← Ny324.out] at ho18 | (simp only [Int.reduceToNat] at ho18; rw [← Ny324.out] at ho18))
      have n0_ := zpao (Kd.V_elder' (zvk HO0_0) (Kd.R_base ho18) hb)
      have n1_ := zpao (Kd.V_elder' (zvk HO0_1) (Kd.R_base ho18) hb)
      have n2_ := zpao (Kd.V_elder' (zvk HO0_4) (Kd.R_base ho18) hb)
      have n3_ := zpao (Kd.R_lower (Kd.R_newB (Kd.R_newM (M := fun k_ => (w.heap.size ≤ k_)) ho18 (below_size (by repeat (first | (with_reducible first | exact HB.out | apply zpaj | apply zpah | apply zpai | refine zpag ?_ zpay.out | refine zpag ?_ zpaz.out | refine zpag ?_ zpbb.out) | exact HB.out))) (fun k_ h_ => h_)) (g := zpav) (o := .cells #[.int .i64 a1_0, .string a1_1, .string a1_2, .string a1_3, .int .i64 a1_4] 86 (0, 0)) (zbk zpas)) (below_size (by repeat (first | (with_reducible first | exact HB.out | apply zpaj | apply zpah | apply zpai | refine zpag ?_ zpay.out | refine zpag ?_ zpaz.out | refine zpag ?_ zpbb.out) | exact HB.out))))
      have n4_ := zpao (blk_below (g := zpar) (o := .cells #[.slice A0_0 l0_0.length c0_0, .slice A0_1 l0_1.length c0_1, .int .i64 a0_2, .bool a0_3, .slice A0_4 l0_4.length c0_4, .int .i64 a0_5] 57 (0, 0)) (zbk zpap) hb)
      have n5_ := zpao (blk_below (g := zpav) (o := .cells #[.int .i64 a1_0, .string a1_1, .string a1_2, .string a1_3, .int .i64 a1_4] 86 (0, 0)) (zbk zpas) hb)
      have n6_ := zpao (blk_below (g := zpat) (o := .cells #[.slice none 0 0, .slice none 0 0, .int .i64 0, .bool false, .slice none 0 0, .int .i64 0] 57 (0, 0)) (zbk zpau) hb)
      have n7_ := zpao (below_step (by repeat (first | (with_reducible first | exact HB.out | apply zpaj | apply zpah | apply zpai | refine zpag ?_ zpay.out | refine zpag ?_ zpaz.out | refine zpag ?_ zpbb.out) | exact HB.out)) hb)
      clear HO0_0
      clear HO0_1
      clear HO0_4
      clear zpap
      clear zpas
      clear zpau
      clear HB
      have HO0_0 := n0_
      have HO0_1 := n1_
      have HO0_4 := n2_
      have HO326 := n3_
      have zpap := n4_
      have zpas := n5_
      have zpau := n6_
      have HB := n7_
      clear n0_ n1_ n2_ n3_ n4_ n5_ n6_ n7_
      clear hb ho18
      refine hK.out _ _ ⟨(zpak zpap.out 0).trans rfl, (zpak zpap.out 1).trans rfl, (zpak zpap.out 2).trans rfl, (zpak zpap.out 3).trans rfl, (zpak zpap.out 4).trans rfl, (zpak zpap.out 5).trans rfl, (zpak zpas.out 0).trans rfl, (zpak zpas.out 1).trans rfl, (zpak zpas.out 2).trans rfl, (zpak zpas.out 3).trans rfl, (zpak zpas.out 4).trans rfl⟩ (fun hHeld => ?_)
      clear hK K
      refine norm_ (a' := ?_) ?_ ?_
      rotate_left
      ·show Act.put _ (some 22) _ = _
       simp only [Act.put, zpaa, zpab, zpac, i64_w, i32_w]
       rfl
      refine one_ (i := 0) (N := some 17) #[true, true, true, false, true, true, false, false] rfl rfl (one_of HT_.out (by kernel_rfl)) (by decide) (fun K hK => ?_)
      refine Kd.R_lit_step k86 _ 86 ?hg (N := 17) ?hd (xs := ([] : List (S86))) (inner := []) (ok := fun _ => True) (okp := fun _ => True) ?hr ?hp (fun _ hk => hk) trivial (Below.refl _ _) (Nat.le_refl _) (by simp) ?_; (case hd => rfl); (case hg => rfl); (case hr => first | (go_simp; done) | (go_simp; rfl)); (case hp => exact (Reps.none _ _))
      intro v319 w19 ho20 hb hg_ hnew_
      clear hg_ hnew_
      (first | rw [← Ny318.out] at ho20 | (simp only [Int.reduceToNat] at ho20; rw [← Ny318.out] at ho20))
      have n0_ := zpao (Kd.V_elder' (zvk HO0_0) (Kd.R_base ho20) hb)
      have n1_ := zpao (Kd.V_elder' (zvk HO0_1) (Kd.R_base ho20) hb)
      have n2_ := zpao (Kd.V_elder' (zvk HO0_4) (Kd.R_base ho20) hb)
      have n3_ := zpao (Kd.R_elder' (zrk HO326) (Kd.R_base ho20) hb)
      have n4_ := zpao (Kd.R_lower (Kd.R_newB (Kd.R_new' (Kd.R_newM (M := fun k_ => (w.heap.size ≤ k_)) ho20 (below_size (by repeat (first | (with_reducible first | exact HB.out | apply zpaj | apply zpah | apply zpai | refine zpag ?_ zpay.out | refine zpag ?_ zpaz.out | refine zpag ?_ zpbb.out) | exact HB.out))) (fun k_ h_ => h_)) (Kd.R_lt (zrk HO326))) (g := zpav) (o := .cells #[.int .i64 a1_0, .string a1_1, .string a1_2, .string a1_3, .int .i64 a1_4] 86 (0, 0)) (zbk zpas)) (below_size (by repeat (first | (with_reducible first | exact HB.out | apply zpaj | apply zpah | apply zpai | refine zpag ?_ zpay.out | refine zpag ?_ zpaz.out | refine zpag ?_ zpbb.out) | exact HB.out))))
      have n5_ := zpao (blk_below (g := zpar) (o := .cells #[.slice A0_0 l0_0.length c0_0, .slice A0_1 l0_1.length c0_1, .int .i64 a0_2, .bool a0_3, .slice A0_4 l0_4.length c0_4, .int .i64 a0_5] 57 (0, 0)) (zbk zpap) hb)
      have n6_ := zpao (blk_below (g := zpav) (o := .cells #[.int .i64 a1_0, .string a1_1, .string a1_2, .string a1_3, .int .i64 a1_4] 86 (0, 0)) (zbk zpas) hb)
      have n7_ := zpao (blk_below (g := zpat) (o := .cells #[.slice none 0 0, .slice none 0 0, .int .i64 0, .bool false, .slice none 0 0, .int .i64 0] 57 (0, 0)) (zbk zpau) hb)
      have n8_ := zpao (below_step (by repeat (first | (with_reducible first | exact HB.out | apply zpaj | apply zpah | apply zpai | refine zpag ?_ zpay.out | refine zpag ?_ zpaz.out | refine zpag ?_ zpbb.out) | exact HB.out)) hb)
      clear HO0_0
      clear HO0_1
      clear HO0_4
      clear HO326
      clear zpap
      clear zpas
      clear zpau
      clear HB
      have HO0_0 := n0_
      have HO0_1 := n1_
      have HO0_4 := n2_
      have HO326 := n3_
      have HO320 := n4_
      have zpap := n5_
      have zpas := n6_
      have zpau := n7_
      have HB := n8_
      clear n0_ n1_ n2_ n3_ n4_ n5_ n6_ n7_ n8_
      clear hb ho20
      refine hK.out _ _ ⟨(zpak zpap.out 0).trans rfl, (zpak zpap.out 1).trans rfl, (zpak zpap.out 2).trans rfl, (zpak zpap.out 3).trans rfl, (zpak zpap.out 4).trans rfl, (zpak zpap.out 5).trans rfl, (zpak zpas.out 0).trans rfl, (zpak zpas.out 1).trans rfl, (zpak zpas.out 2).trans rfl, (zpak zpas.out 3).trans rfl, (zpak zpas.out 4).trans rfl⟩ (fun hHeld => ?_)
      clear hK K
      refine norm_ (a' := ?_) ?_ ?_
      rotate_left
      ·show Act.put _ (some 17) _ = _
       simp only [Act.put, zpaa, zpab, zpac, i64_w, i32_w]
       rfl
      refine one_ (i := 3) (N := some 20) #[true, true, true, true, true, true, false, false] rfl rfl (one_of HT_.out (by kernel_rfl)) (by decide) (fun K hK => ?_)
      refine Kd.R_append_rows_step k86 (w0 := w) w.heap.size (by rfl) (.tmp 17) (.tmp 19) 54 86 (.agg #[(.int .i64 0), (.string ⟨#[]⟩), (.string ⟨#[]⟩), (.string ⟨#[]⟩), (.int .i64 0)]) 64 rfl Try.underlying54 info86 rfl (by decide) (by omega) v319 y318 l0_1 _ _ _ (fun k_ => (w.heap.size ≤ k_) ∧ some k_ ≠ (v325 : Value).ownBlock ∧ k_ ≠ zpav) (fun _ => False) rfl rfl ?aO ?aR (fun _ _ h => h) (fun _ h => h.elim) ?aF ?aB ?aS ?aL ?_
      (case aR => repeat (first | exact (Kd.V_reads' HO0_1.out).2.2 | (with_reducible refine Kd.C_alloc ?_ _) | (with_reducible refine Kd.C_drewN ?_ _) | (with_reducible refine Kd.C_drew ?_)))
      (case aB => exact (by repeat (first | (with_reducible first | exact HB.out | apply zpaj | apply zpah | apply zpai | refine zpag ?_ zpay.out | refine zpag ?_ zpaz.out | refine zpag ?_ zpbb.out) | exact HB.out)))
      (case aF => exact (fun k_ hk => ⟨(Nat.le_trans (below_size (by repeat (first | (with_reducible first | exact HB.out | apply zpaj | apply zpah | apply zpai | refine zpag ?_ zpay.out | refine zpag ?_ zpaz.out | refine zpag ?_ zpbb.out) | exact HB.out))) hk), Kd.fresh' (Kd.R_lt (zrk HO326)) k_ hk, Kd.freshB (g := zpav) (o := .cells #[.int .i64 a1_0, .string a1_1, .string a1_2, .string a1_3, .int .i64 a1_4] 86 (0, 0)) (zbk zpas) k_ hk⟩))
      (case aO => exact (by (with_reducible repeat (first | apply Kd.R_alloc | apply Kd.R_drewN | apply Kd.R_drew)); exact Kd.R_mono HO320.out (fun _ hk => ⟨hk.1.1.1, ⟨hk.1.2, hk.2⟩⟩)))
      (case aS => exact (below_size (by repeat (first | (with_reducible first | exact HB.out | apply zpaj | apply zpah | apply zpai | refine zpag ?_ zpay.out | refine zpag ?_ zpaz.out | refine zpag ?_ zpbb.out) | exact HB.out))))
      (case aL => have := LMc5.out; omega)
      intro v322 w21 ho hb hg hat
      rw [← Ny321.out] at ho
      have n0_ := zpao (Kd.V_afterv (ok := (fun k_ => ((P0_0_ k_ ∨ P0_1_ k_ ∨ P0_4_ k_) ∨ w.heap.size ≤ k_) ∧ some k_ ≠ (v325 : Value).ownBlock ∧ k_ ≠ zpar ∧ k_ ≠ zpav ∧ k_ ≠ zpat)) (by (with_reducible repeat (first | apply Kd.V_alloc | apply Kd.V_drewN | apply Kd.V_drew)); exact Kd.V_mono HO0_0.out (fun _ hk => ⟨⟨hk.1.1.1.1.1, ⟨hk.1.2, ⟨hk.1.1.1.1.2, ⟨hk.1.1.1.2, hk.1.1.2⟩⟩⟩⟩, hk.2⟩)) hg hat)
      have n1_ := zpao (Kd.V_afterv (ok := (fun k_ => ((P0_0_ k_ ∨ P0_1_ k_ ∨ P0_4_ k_) ∨ w.heap.size ≤ k_) ∧ some k_ ≠ (v325 : Value).ownBlock ∧ k_ ≠ zpar ∧ k_ ≠ zpav ∧ k_ ≠ zpat)) (by (with_reducible repeat (first | apply Kd.V_alloc | apply Kd.V_drewN | apply Kd.V_drew)); exact Kd.V_mono HO0_1.out (fun _ hk => ⟨⟨hk.1.1.1.1.1, ⟨hk.1.2, ⟨hk.1.1.1.1.2, ⟨hk.1.1.1.2, hk.1.1.2⟩⟩⟩⟩, hk.2⟩)) hg hat)
      have n2_ := zpao (Kd.V_afterv (ok := (fun k_ => ((P0_0_ k_ ∨ P0_1_ k_ ∨ P0_4_ k_) ∨ w.heap.size ≤ k_) ∧ some k_ ≠ (v325 : Value).ownBlock ∧ k_ ≠ zpar ∧ k_ ≠ zpav ∧ k_ ≠ zpat)) (by (with_reducible repeat (first | apply Kd.V_alloc | apply Kd.V_drewN | apply Kd.V_drew)); exact Kd.V_mono HO0_4.out (fun _ hk => ⟨⟨hk.1.1.1.1.1, ⟨hk.1.2, ⟨hk.1.1.1.1.2, ⟨hk.1.1.1.2, hk.1.1.2⟩⟩⟩⟩, hk.2⟩)) hg hat)
      have n3_ := zpao (blk_grown (g := zpar) (o := .cells #[.slice A0_0 l0_0.length c0_0, .slice A0_1 l0_1.length c0_1, .int .i64 a0_2, .bool a0_3, .slice A0_4 l0_4.length c0_4, .int .i64 a0_5] 57 (0, 0)) (zbk zpap) hg (Kd.R_ne HO320.out zpap.out (by decide)))
      have n4_ := zpao (blk_grown (g := zpav) (o := .cells #[.int .i64 a1_0, .string a1_1, .string a1_2, .string a1_3, .int .i64 a1_4] 86 (0, 0)) (zbk zpas) hg (Kd.R_away HO320.out (fun _ hk => hk.2)))
      have n5_ := zpao (blk_grown (g := zpat) (o := .cells #[.slice none 0 0, .slice none 0 0, .int .i64 0, .bool false, .slice none 0 0, .int .i64 0] 57 (0, 0)) (zbk zpau) hg (Kd.R_ne HO320.out zpau.out (by decide)))
      have n6_ := zpao (Kd.R_after (ok := (fun k_ => (w.heap.size ≤ k_) ∧ k_ ≠ zpav)) (by (with_reducible repeat (first | apply Kd.R_alloc | apply Kd.R_drewN | apply Kd.R_drew)); exact Kd.R_mono HO326.out (fun _ hk => ⟨⟨hk.1.1.1, hk.1.2⟩, hk.2⟩)) hg hat)
      have n7_ := zpao (hb)
      have n8_ := zpao (ho)
      clear HO0_0
      clear HO0_1
      clear HO0_4
      clear zpap
      clear zpas
      clear zpau
      clear HO326
      clear HB
      clear HO320
      have HO0_0 := n0_
      have HO0_1 := n1_
      have HO0_4 := n2_
      have zpap := n3_
      have zpas := n4_
      have zpau := n5_
      have HO326 := n6_
      have HB := n7_
      have HO323 := n8_
      clear n0_ n1_ n2_ n3_ n4_ n5_ n6_ n7_ n8_
      clear ho hb hg hat
      refine hK.out _ _ ⟨(zpak zpap.out 0).trans rfl, (zpak zpap.out 1).trans rfl, (zpak zpap.out 2).trans rfl, (zpak zpap.out 3).trans rfl, (zpak zpap.out 4).trans rfl, (zpak zpap.out 5).trans rfl, (zpak zpas.out 0).trans rfl, (zpak zpas.out 1).trans rfl, (zpak zpas.out 2).trans rfl, (zpak zpas.out 3).trans rfl, (zpak zpas.out 4).trans rfl⟩ (fun hHeld => ?_)
      clear hK K
      refine norm_ (a' := ?_) ?_ ?_
      rotate_left
      ·show Act.put _ (some 20) _ = _
       simp only [Act.put, zpaa, zpab, zpac, i64_w, i32_w]
       rfl
      exact norm_ (by simp only [putAll, Act.put, zpaa, zpab, zpac]) (hCont (v319, v322, v325) _ ⟨hHeld, (by (with_reducible repeat (first | apply Kd.V_alloc | apply Kd.V_drewN | apply Kd.V_drew)); exact Kd.V_mono HO0_0.out (fun _ hk => ⟨hk.1.1, ⟨hk.2, ⟨hk.1.2.1, ⟨hk.1.2.2.1, ⟨hk.1.2.2.2.1, hk.1.2.2.2.2⟩⟩⟩⟩⟩)), (by (with_reducible repeat (first | apply Kd.V_alloc | apply Kd.V_drewN | apply Kd.V_drew)); exact Kd.V_mono HO0_1.out (fun _ hk => ⟨hk.1.1, ⟨hk.2, ⟨hk.1.2.1, ⟨hk.1.2.2.1, ⟨hk.1.2.2.2.1, hk.1.2.2.2.2⟩⟩⟩⟩⟩)), (by (with_reducible repeat (first | apply Kd.V_alloc | apply Kd.V_drewN | apply Kd.V_drew)); exact Kd.V_mono HO0_4.out (fun _ hk => ⟨hk.1.1, ⟨hk.2, ⟨hk.1.2.1, ⟨hk.1.2.2.1, ⟨hk.1.2.2.2.1, hk.1.2.2.2.2⟩⟩⟩⟩⟩)), (zrk HO323), (by (with_reducible repeat (first | apply Kd.R_alloc | apply Kd.R_drewN | apply Kd.R_drew)); exact Kd.R_mono HO326.out (fun _ hk => ⟨hk.1.1, ⟨hk.2, hk.1.2⟩⟩)), (zbk zpap), (zbk zpas), (zbk zpau), (by repeat (first | (with_reducible first | exact HB.out | apply zpaj | apply zpah | apply zpai | refine zpag ?_ zpay.out | refine zpag ?_ zpaz.out | refine zpag ?_ zpbb.out) | exact HB.out))⟩)
    rintro ⟨v319, v322, v325⟩ w22 ⟨hS_, h0_, h1_, h2_, h3_, h4_, h5_, h6_, h7_, h8_⟩
    have n0_ : Aside0 (Kd.V k48 48 w22 w.heap.size (fun k_ => ((P0_0_ k_ ∨ P0_1_ k_ ∨ P0_4_ k_) ∨ w.heap.size ≤ k_) ∧ some k_ ≠ (v322 : Value).ownBlock ∧ some k_ ≠ (v325 : Value).ownBlock ∧ k_ ≠ zpar ∧ k_ ≠ zpav ∧ k_ ≠ zpat) (.slice A0_0 l0_0.length c0_0) l0_0) := ⟨h0_⟩
    have n1_ : Aside0 (Kd.V k86 86 w22 w.heap.size (fun k_ => ((P0_0_ k_ ∨ P0_1_ k_ ∨ P0_4_ k_) ∨ w.heap.size ≤ k_) ∧ some k_ ≠ (v322 : Value).ownBlock ∧ some k_ ≠ (v325 : Value).ownBlock ∧ k_ ≠ zpar ∧ k_ ≠ zpav ∧ k_ ≠ zpat) (.slice A0_1 l0_1.length c0_1) l0_1) := ⟨h1_⟩
    have n2_ : Aside0 (Kd.V k90 90 w22 w.heap.size (fun k_ => ((P0_0_ k_ ∨ P0_1_ k_ ∨ P0_4_ k_) ∨ w.heap.size ≤ k_) ∧ some k_ ≠ (v322 : Value).ownBlock ∧ some k_ ≠ (v325 : Value).ownBlock ∧ k_ ≠ zpar ∧ k_ ≠ zpav ∧ k_ ≠ zpat) (.slice A0_4 l0_4.length c0_4) l0_4) := ⟨h2_⟩
    have n3_ : Aside0 (Kd.R k86 86 w22 w.heap.size (fun k_ => (w.heap.size ≤ k_) ∧ some k_ ≠ (v325 : Value).ownBlock ∧ k_ ≠ zpav) v322 y321) := ⟨h3_⟩
    have n4_ : Aside0 (Kd.R k86 86 w22 w.heap.size (fun k_ => (w.heap.size ≤ k_) ∧ some k_ ≠ (v322 : Value).ownBlock ∧ k_ ≠ zpav) v325 y324) := ⟨h4_⟩
    have n5_ : Aside0 (w22.heap[zpar]? = some (.cells #[.slice A0_0 l0_0.length c0_0, .slice A0_1 l0_1.length c0_1, .int .i64 a0_2, .bool a0_3, .slice A0_4 l0_4.length c0_4, .int .i64 a0_5] 57 (0, 0))) := ⟨h5_⟩
    have n6_ : Aside0 (w22.heap[zpav]? = some (.cells #[.int .i64 a1_0, .string a1_1, .string a1_2, .string a1_3, .int .i64 a1_4] 86 (0, 0))) := ⟨h6_⟩
    have n7_ : Aside0 (w22.heap[zpat]? = some (.cells #[.slice none 0 0, .slice none 0 0, .int .i64 0, .bool false, .slice none 0 0, .int .i64 0] 57 (0, 0))) := ⟨h7_⟩
    have n8_ : Aside0 (Below w.heap.size w w22) := ⟨h8_⟩
    clear HO0_0
    clear HO0_1
    clear HO0_4
    clear zpap
    clear zpas
    clear zpau
    clear HB
    clear h0_ h1_ h2_ h3_ h4_ h5_ h6_ h7_ h8_
    have HO0_0 := n0_
    have HO0_1 := n1_
    have HO0_4 := n2_
    have HO323 := n3_
    have HO326 := n4_
    have zpap := n5_
    have zpas := n6_
    have zpau := n7_
    have HB := n8_
    clear n0_ n1_ n2_ n3_ n4_ n5_ n6_ n7_ n8_
    have hHeld : w22.cell? ⟨zpar, 0, none⟩ = some (.slice A0_0 l0_0.length c0_0) ∧ w22.cell? ⟨zpar, 1, none⟩ = some (.slice A0_1 l0_1.length c0_1) ∧ w22.cell? ⟨zpar, 2, none⟩ = some (.int .i64 a0_2) ∧ w22.cell? ⟨zpar, 3, none⟩ = some (.bool a0_3) ∧ w22.cell? ⟨zpar, 4, none⟩ = some (.slice A0_4 l0_4.length c0_4) ∧ w22.cell? ⟨zpar, 5, none⟩ = some (.int .i64 a0_5) ∧ w22.cell? ⟨zpav, 0, none⟩ = some (.int .i64 a1_0) ∧ w22.cell? ⟨zpav, 1, none⟩ = some (.string a1_1) ∧ w22.cell? ⟨zpav, 2, none⟩ = some (.string a1_2) ∧ w22.cell? ⟨zpav, 3, none⟩ = some (.string a1_3) ∧ w22.cell? ⟨zpav, 4, none⟩ = some (.int .i64 a1_4) := hS_
    obtain ⟨Ao24, co24, eo24⟩ := Kd.R_slice HO326.out
    (first | subst eo24 | (injection eo24 with f1_ f2_ f3_; have f4_ := f1_.symm; have f5_ := f3_.symm; clear f1_ f2_ f3_; subst f4_; subst f5_))
    refine norm_ (a' := ?_) ?_ ?_
    rotate_left
    ·simp only [putAll, Act.put, zpaa, zpab, zpac]
     rfl
    refine one_ (i := 6) (N := some 23) #[true, true, true, true, true, true, true, false] rfl rfl (one_of HT_.out (by kernel_rfl)) (by decide) (fun K hK => ?_)
    refine Kd.R_append_rows_step k86 (w0 := w) w.heap.size (by rfl) (.tmp 20) (.tmp 22) 54 86 (.agg #[(.int .i64 0), (.string ⟨#[]⟩), (.string ⟨#[]⟩), (.string ⟨#[]⟩), (.int .i64 0)]) 64 rfl Try.underlying54 info86 rfl (by decide) (by omega) v322 y321 y324 _ _ _ (fun k_ => (w.heap.size ≤ k_) ∧ some k_ ≠ (.slice Ao24 y324.length co24 : Value).ownBlock ∧ k_ ≠ zpav) (fun _ => False) rfl rfl ?aO ?aR (fun _ _ h => h) (fun _ h => h.elim) ?aF ?aB ?aS ?aL ?_
    (case aR => repeat (first | exact (Kd.R_reads' HO326.out).2.2 | (with_reducible refine Kd.C_alloc ?_ _) | (with_reducible refine Kd.C_drewN ?_ _) | (with_reducible refine Kd.C_drew ?_)))
    (case aB => exact (by repeat (first | (with_reducible first | exact HB.out | apply zpaj | apply zpah | apply zpai | refine zpag ?_ zpay.out | refine zpag ?_ zpaz.out | refine zpag ?_ zpbb.out) | exact HB.out)))
    (case aF => exact (fun k_ hk => ⟨(Nat.le_trans (below_size (by repeat (first | (with_reducible first | exact HB.out | apply zpaj | apply zpah | apply zpai | refine zpag ?_ zpay.out | refine zpag ?_ zpaz.out | refine zpag ?_ zpbb.out) | exact HB.out))) hk), Kd.fresh' (Kd.R_lt (zrk HO326)) k_ hk, Kd.freshB (g := zpav) (o := .cells #[.int .i64 a1_0, .string a1_1, .string a1_2, .string a1_3, .int .i64 a1_4] 86 (0, 0)) (zbk zpas) k_ hk⟩))
    (case aO => exact (zrk HO323))
    (case aS => exact (below_size (by repeat (first | (with_reducible first | exact HB.out | apply zpaj | apply zpah | apply zpai | refine zpag ?_ zpay.out | refine zpag ?_ zpaz.out | refine zpag ?_ zpbb.out) | exact HB.out))))
    (case aL => have := LMc6.out; omega)
    intro v328 w23 ho hb hg hat
    rw [← Ny327.out] at ho
    have n0_ := zpao (Kd.V_afterv (ok := (fun k_ => ((P0_0_ k_ ∨ P0_1_ k_ ∨ P0_4_ k_) ∨ w.heap.size ≤ k_) ∧ some k_ ≠ (.slice Ao24 y324.length co24 : Value).ownBlock ∧ k_ ≠ zpar ∧ k_ ≠ zpav ∧ k_ ≠ zpat)) (by (with_reducible repeat (first | apply Kd.V_alloc | apply Kd.V_drewN | apply Kd.V_drew)); exact Kd.V_mono HO0_0.out (fun _ hk => ⟨⟨hk.1, ⟨hk.2.2.1, ⟨hk.2.2.2.1, ⟨hk.2.2.2.2.1, hk.2.2.2.2.2⟩⟩⟩⟩, hk.2.1⟩)) hg hat)
    have n1_ := zpao (Kd.V_afterv (ok := (fun k_ => ((P0_0_ k_ ∨ P0_1_ k_ ∨ P0_4_ k_) ∨ w.heap.size ≤ k_) ∧ some k_ ≠ (.slice Ao24 y324.length co24 : Value).ownBlock ∧ k_ ≠ zpar ∧ k_ ≠ zpav ∧ k_ ≠ zpat)) (by (with_reducible repeat (first | apply Kd.V_alloc | apply Kd.V_drewN | apply Kd.V_drew)); exact Kd.V_mono HO0_1.out (fun _ hk => ⟨⟨hk.1, ⟨hk.2.2.1, ⟨hk.2.2.2.1, ⟨hk.2.2.2.2.1, hk.2.2.2.2.2⟩⟩⟩⟩, hk.2.1⟩)) hg hat)
    have n2_ := zpao (Kd.V_afterv (ok := (fun k_ => ((P0_0_ k_ ∨ P0_1_ k_ ∨ P0_4_ k_) ∨ w.heap.size ≤ k_) ∧ some k_ ≠ (.slice Ao24 y324.length co24 : Value).ownBlock ∧ k_ ≠ zpar ∧ k_ ≠ zpav ∧ k_ ≠ zpat)) (by (with_reducible repeat (first | apply Kd.V_alloc | apply Kd.V_drewN | apply Kd.V_drew)); exact Kd.V_mono HO0_4.out (fun _ hk => ⟨⟨hk.1, ⟨hk.2.2.1, ⟨hk.2.2.2.1, ⟨hk.2.2.2.2.1, hk.2.2.2.2.2⟩⟩⟩⟩, hk.2.1⟩)) hg hat)
    have n3_ := zpao (blk_grown (g := zpar) (o := .cells #[.slice A0_0 l0_0.length c0_0, .slice A0_1 l0_1.length c0_1, .int .i64 a0_2, .bool a0_3, .slice A0_4 l0_4.length c0_4, .int .i64 a0_5] 57 (0, 0)) (zbk zpap) hg (Kd.R_ne HO323.out zpap.out (by decide)))
    have n4_ := zpao (blk_grown (g := zpav) (o := .cells #[.int .i64 a1_0, .string a1_1, .string a1_2, .string a1_3, .int .i64 a1_4] 86 (0, 0)) (zbk zpas) hg (Kd.R_away HO323.out (fun _ hk => hk.2.2)))
    have n5_ := zpao (blk_grown (g := zpat) (o := .cells #[.slice none 0 0, .slice none 0 0, .int .i64 0, .bool false, .slice none 0 0, .int .i64 0] 57 (0, 0)) (zbk zpau) hg (Kd.R_ne HO323.out zpau.out (by decide)))
    have n6_ := zpao (Kd.R_after (ok := (fun k_ => (w.heap.size ≤ k_) ∧ k_ ≠ zpav)) (by (with_reducible repeat (first | apply Kd.R_alloc | apply Kd.R_drewN | apply Kd.R_drew)); exact Kd.R_mono HO326.out (fun _ hk => ⟨⟨hk.1, hk.2.2⟩, hk.2.1⟩)) hg hat)
    have n7_ := zpao (hb)
    have n8_ := zpao (ho)
    clear HO0_0
    clear HO0_1
    clear HO0_4
    clear zpap
    clear zpas
    clear zpau
    clear HO326
    clear HB
    clear HO323
    have HO0_0 := n0_
    have HO0_1 := n1_
    have HO0_4 := n2_
    have zpap := n3_
    have zpas := n4_
    have zpau := n5_
    have HO326 := n6_
    have HB := n7_
    have HO329 := n8_
    clear n0_ n1_ n2_ n3_ n4_ n5_ n6_ n7_ n8_
    clear ho hb hg hat
    refine hK.out _ _ ⟨(zpak zpap.out 0).trans rfl, (zpak zpap.out 1).trans rfl, (zpak zpap.out 2).trans rfl, (zpak zpap.out 3).trans rfl, (zpak zpap.out 4).trans rfl, (zpak zpap.out 5).trans rfl, (zpak zpas.out 0).trans rfl, (zpak zpas.out 1).trans rfl, (zpak zpas.out 2).trans rfl, (zpak zpas.out 3).trans rfl, (zpak zpas.out 4).trans rfl⟩ (fun hHeld => ?_)
    clear hK K
    refine norm_ (a' := ?_) ?_ ?_
    rotate_left
    ·show Act.put _ (some 23) _ = _
     simp only [Act.put, zpaa, zpab, zpac, i64_w, i32_w]
     rfl
    refine pure_ (i := 7) (N := some 7) (v := ?_) (a' := ?_) #[true, true, true, true, true, true, true, true] rfl rfl (any_of HT_.out (by kernel_rfl)) (fun _ _ _ h => h) (Or.inl ⟨by rfl, ?_⟩) ?_ ?_
    rotate_left
    ·intro w'
     go_simp
     with_reducible rfl
    rotate_left
    ·simp only [Act.put, zpaa, zpab, zpac, i64_w, i32_w]
     rfl
    refine done_ (done_of HT_.out (by kernel_rfl)) ?_
    try go_wp2
    go_loopg [8] k (fun kq v8 w' => ∃ (zpax : Int) (zpbo : List (S86)) (zpaq : List (S90)) (zpbe : Int) (zpbd : Bool) (zpbc : Int) (u315001 : Value) (u315004 : Value), v8 = .int .i64 zpax ∧ Aside0 (stowageref04_Disk_Make.l0 kq y327 zpax l0_0 zpbo a0_2 a0_3 zpaq a0_5 = some (r1, r2, r3, r4, r5, r6, r7)) ∧ Aside0 (kq ≤ k) ∧ Aside0 (Kd.R k86 86 w' w.heap.size (fun k_ => (w.heap.size ≤ k_) ∧ k_ ≠ zpav) v328 y327) ∧ Aside0 (Kd.V k48 48 w' w.heap.size (fun k_ => ((P0_0_ k_ ∨ P0_1_ k_ ∨ P0_4_ k_) ∨ w.heap.size ≤ k_) ∧ some k_ ≠ (v328 : Value).ownBlock ∧ k_ ≠ zpar ∧ k_ ≠ zpav ∧ k_ ≠ zpat) (.slice A0_0 l0_0.length c0_0) l0_0) ∧ Aside0 (Kd.V k86 86 w' w.heap.size (fun k_ => ((P0_0_ k_ ∨ P0_1_ k_ ∨ P0_4_ k_) ∨ w.heap.size ≤ k_) ∧ some k_ ≠ (v328 : Value).ownBlock ∧ k_ ≠ zpar ∧ k_ ≠ zpav ∧ k_ ≠ zpat) u315001 zpbo) ∧ Aside0 (Kd.V k90 90 w' w.heap.size (fun k_ => ((P0_0_ k_ ∨ P0_1_ k_ ∨ P0_4_ k_) ∨ w.heap.size ≤ k_) ∧ some k_ ≠ (v328 : Value).ownBlock ∧ k_ ≠ zpar ∧ k_ ≠ zpav ∧ k_ ≠ zpat) u315004 zpaq) ∧ Aside0 (w'.heap[zpar]? = some (.cells #[(.slice A0_0 l0_0.length c0_0), u315001, .int .i64 a0_2, .bool a0_3, u315004, .int .i64 a0_5] 57 (0, 0))) ∧ Aside0 (w'.heap[zpav]? = some (.cells #[.int .i64 a1_0, .string a1_1, .string a1_2, .string a1_3, .int .i64 a1_4] 86 (0, 0))) ∧ Aside0 (w'.heap[zpat]? = some (.cells #[(.slice none 0 0), (.slice none 0 0), .int .i64 zpbe, .bool zpbd, (.slice none 0 0), .int .i64 zpbc] 57 (0, 0))) ∧ Aside0 (Below w.heap.size w w'))
    case atStart => exact ⟨(0), (l0_1), (l0_4), (0), (false), (0), (.slice A0_1 l0_1.length c0_1), (.slice A0_4 l0_4.length c0_4), (by first | rfl | (simp; done) | (simp [*]; done)), H', ⟨Nat.le_refl _⟩, ⟨by (with_reducible repeat (first | apply Kd.R_alloc | apply Kd.R_drewN | apply Kd.R_drew)); exact Kd.R_mono HO329.out (fun _ hk => ⟨hk.1, hk.2.2⟩)⟩, ⟨by (with_reducible repeat (first | apply Kd.V_alloc | apply Kd.V_drewN | apply Kd.V_drew)); exact Kd.V_mono HO0_0.out (fun _ hk => ⟨hk.1.1, ⟨hk.2, ⟨hk.1.2.2.1, ⟨hk.1.2.2.2.1, hk.1.2.2.2.2⟩⟩⟩⟩)⟩, ⟨by (with_reducible repeat (first | apply Kd.V_alloc | apply Kd.V_drewN | apply Kd.V_drew)); exact Kd.V_mono HO0_1.out (fun _ hk => ⟨hk.1.1, ⟨hk.2, ⟨hk.1.2.2.1, ⟨hk.1.2.2.2.1, hk.1.2.2.2.2⟩⟩⟩⟩)⟩, ⟨by (with_reducible repeat (first | apply Kd.V_alloc | apply Kd.V_drewN | apply Kd.V_drew)); exact Kd.V_mono HO0_4.out (fun _ hk => ⟨hk.1.1, ⟨hk.2, ⟨hk.1.2.2.1, ⟨hk.1.2.2.2.1, hk.1.2.2.2.2⟩⟩⟩⟩)⟩, ⟨zbk zpap⟩, ⟨zbk zpas⟩, ⟨zbk zpau⟩, ⟨by repeat (first | (with_reducible first | exact HB.out | apply zpaj | apply zpah | apply zpai | refine zpag ?_ zpay.out | refine zpag ?_ zpaz.out | refine zpag ?_ zpbb.out) | exact HB.out)⟩⟩
    case round =>
     clear H'
     try clear c1
     try clear p2
     try clear c4
     try clear c4b0
     try clear c4b1
     try clear c5
     try clear c6
     try clear c10
     try clear c11
     try clear c13
     try clear zpbz
     try clear zpca
     try clear zpcb
     try clear zpcc
     try clear zpcd
     try clear zpce
     try clear zpcl
     try clear zpcm
     try clear zpcn
     try clear zpco
     try clear zpcp
     try clear zpcf
     try clear zpcg
     try clear zpch
     try clear zpci
     try clear zpcj
     try clear zpck
     try clear zpcq
     try clear zpcr
     try clear zpcs
     try clear zpct
     try clear zpcu
     obtain ⟨zpax, zpbo, zpaq, zpbe, zpbd, zpbc, u315001, u315004, rfl, HA, HK1, HO_7, HO_315000, HO_315001, HO_315004, zpap, zpas, zpau, HB⟩ := hrel
     cases gk with
     | zero => exact absurd HA.out (by simp [stowageref04_Disk_Make.l0])
     | succ k1 =>
      have H := HA.out
      clear HA
      simp only [stowageref04_Disk_Make.l0] at H
      by_cases c25 : zpax < (zpaq.length : Int)
      ·rw [if_pos c25] at H
       have c25b0 : decide (zpax < (zpaq.length : Int)) = true := decide_eq_true c25
       clear c25
       by_cases c26 : 0 ≤ zpax
       ·rw [if_pos c26] at H
        have c26b0 : decide (0 ≤ zpax) = true := decide_eq_true c26
        clear c26
        by_cases c27 : ((rd_T90 zpaq zpax).f0) = a0_2
        ·rw [if_pos c27] at H
         have c27b0 : (((rd_T90 zpaq zpax).f0) == a0_2) = true := beq_iff_eq.mpr c27
         have c27b1 : (((rd_T90 zpaq zpax).f0) != a0_2) = false := bne_eq_false_iff_eq.mpr c27
         clear c27
         obtain ⟨y332, hy332⟩ : ∃ y_ : List (S90), y_ = (([] : List (S90))) := ⟨_, rfl⟩
         replace H : (if zpax ≤ (zpaq.length : Int) then ((some (zpaq.take (zpax : Int).toNat : List (S90))).bind fun y335 => (if y332.length + y335.length < 5864062014805 then ((some (y332 ++ y335 : List (S90))).bind fun y340 => (if 0 ≤ (wrap64 (zpax + 1)) then (if (wrap64 (zpax + 1)) ≤ (zpaq.length : Int) then ((some (zpaq.drop ((wrap64 (zpax + 1)) : Int).toNat : List (S90))).bind fun y343 => (if y340.length + y343.length < 5864062014805 then ((stowageref04_Disk_Fail.f k1 l0_0 y327 a0_2 a0_3 (y340 ++ y343) a0_5 ((rd_T90 zpaq zpax).f1) ((rd_T90 zpaq zpax).f2)).bind fun bt351 => (some (bt351.1, bt351.2.1, bt351.2.2.1, bt351.2.2.2.1, bt351.2.2.2.2.1, bt351.2.2.2.2.2, 21))) else (none))) else (none)) else (none))) else (none))) else (none)) = some (r1, r2, r3, r4, r5, r6, r7) := by first | (rw [hy332]; with_reducible exact H) | (have H2_ := (Option.bind_some _ _).symm.trans H; rw [hy332]; with_reducible exact H2_) | (have H2_ := (Option.bind_some _ _).symm.trans H; with_reducible exact H2_) | with_reducible exact H | (rw [hy332]; exact H) | exact H
         have Ny332 := zpao hy332
         clear hy332
         have c28b0 := eq_true (of_decide_eq_true (by first | (with_reducible assumption) | assumption) : 0 ≤ zpax)
         by_cases c29 : zpax ≤ (zpaq.length : Int)
         ·rw [if_pos c29] at H
          have c29b0 := eq_true c29
          have c29b1 : decide (zpax ≤ (zpaq.length : Int)) = true := decide_eq_true c29
          clear c29
          obtain ⟨y335, hy335⟩ : ∃ y_ : List (S90), y_ = (zpaq.take (zpax : Int).toNat) := ⟨_, rfl⟩
          replace H : (if y332.length + y335.length < 5864062014805 then ((some (y332 ++ y335 : List (S90))).bind fun y340 => (if 0 ≤ (wrap64 (zpax + 1)) then (if (wrap64 (zpax + 1)) ≤ (zpaq.length : Int) then ((some (zpaq.drop ((wrap64 (zpax + 1)) : Int).toNat : List (S90))).bind fun y343 => (if y340.length + y343.length < 5864062014805 then ((stowageref04_Disk_Fail.f k1 l0_0 y327 a0_2 a0_3 (y340 ++ y343) a0_5 ((rd_T90 zpaq zpax).f1) ((rd_T90 zpaq zpax).f2)).bind fun bt351 => (some (bt351.1, bt351.2.1, bt351.2.2.1, bt351.2.2.2.1, bt351.2.2.2.2.1, bt351.2.2.2.2.2, 21))) else (none))) else (none)) else (none))) else (none)) = some (r1, r2, r3, r4, r5, r6, r7) := by first | (rw [hy335]; with_reducible exact H) | (have H2_ := (Option.bind_some _ _).symm.trans H; rw [hy335]; with_reducible exact H2_) | (have H2_ := (Option.bind_some _ _).symm.trans H; with_reducible exact H2_) | with_reducible exact H | (rw [hy335]; exact H) | exact H
          have Ny335 := zpao hy335
          clear hy335
          by_cases c30 : y332.length + y335.length < 5864062014805
          ·rw [if_pos c30] at H
           have LMc30 := zpao c30
           clear c30
           obtain ⟨y340, hy340⟩ : ∃ y_ : List (S90), y_ = (y332 ++ y335) := ⟨_, rfl⟩
           replace H : (if 0 ≤ (wrap64 (zpax + 1)) then (if (wrap64 (zpax + 1)) ≤ (zpaq.length : Int) then ((some (zpaq.drop ((wrap64 (zpax + 1)) : Int).toNat : List (S90))).bind fun y343 => (if y340.length + y343.length < 5864062014805 then ((stowageref04_Disk_Fail.f k1 l0_0 y327 a0_2 a0_3 (y340 ++ y343) a0_5 ((rd_T90 zpaq zpax).f1) ((rd_T90 zpaq zpax).f2)).bind fun bt351 => (some (bt351.1, bt351.2.1, bt351.2.2.1, bt351.2.2.2.1, bt351.2.2.2.2.1, bt351.2.2.2.2.2, 21))) else (none))) else (none)) else (none)) = some (r1, r2, r3, r4, r5, r6, r7) := by first | (rw [hy340]; with_reducible exact H) | (have H2_ := (Option.bind_some _ _).symm.trans H; rw [hy340]; with_reducible exact H2_) | (have H2_ := (Option.bind_some _ _).symm.trans H; with_reducible exact H2_) | with_reducible exact H | (rw [hy340]; exact H) | exact H
           have Ny340 := zpao hy340
           clear hy340
           obtain ⟨ji31, hji31⟩ : ∃ j_ : Int, (wrap64 (zpax + 1)) = j_ := ⟨_, rfl⟩
           replace H : (if 0 ≤ (ji31) then (if (ji31) ≤ (zpaq.length : Int) then ((some (zpaq.drop ((ji31) : Int).toNat : List (S90))).bind fun y343 => (if y340.length + y343.length < 5864062014805 then ((stowageref04_Disk_Fail.f k1 l0_0 y327 a0_2 a0_3 (y340 ++ y343) a0_5 ((rd_T90 zpaq zpax).f1) ((rd_T90 zpaq zpax).f2)).bind fun bt351 => (some (bt351.1, bt351.2.1, bt351.2.2.1, bt351.2.2.2.1, bt351.2.2.2.2.1, bt351.2.2.2.2.2, 21))) else (none))) else (none)) else (none)) = some (r1, r2, r3, r4, r5, r6, r7) := by first | (rw [hji31] at H; exact H) | (simp only [hji31] at H ⊢; exact H)
           have hji31w : (IntKind.i64.wrap (zpax + 1)) = ji31 := (i64_w _).trans hji31
           by_cases c32 : 0 ≤ (ji31)
           ·rw [if_pos c32] at H
            have c32b0 := eq_true c32
            have c32b1 : decide (0 ≤ (ji31)) = true := decide_eq_true c32
            clear c32
            by_cases c33 : (ji31) ≤ (zpaq.length : Int)
            ·rw [if_pos c33] at H
             have c33b0 := eq_true c33
             have c33b1 : decide ((ji31) ≤ (zpaq.length : Int)) = true := decide_eq_true c33
             clear c33
             obtain ⟨y343, hy343⟩ : ∃ y_ : List (S90), y_ = (zpaq.drop ((ji31) : Int).toNat) := ⟨_, rfl⟩
             replace H : (if y340.length + y343.length < 5864062014805 then ((stowageref04_Disk_Fail.f k1 l0_0 y327 a0_2 a0_3 (y340 ++ y343) a0_5 ((rd_T90 zpaq zpax).f1) ((rd_T90 zpaq zpax).f2)).bind fun bt351 => (some (bt351.1, bt351.2.1, bt351.2.2.1, bt351.2.2.2.1, bt351.2.2.2.2.1, bt351.2.2.2.2.2, 21))) else (none)) = some (r1, r2, r3, r4, r5, r6, r7) := by first | (rw [hy343]; with_reducible exact H) | (have H2_ := (Option.bind_some _ _).symm.trans H; rw [hy343]; with_reducible exact H2_) | (have H2_ := (Option.bind_some _ _).symm.trans H; with_reducible exact H2_) | with_reducible exact H | (rw [hy343]; exact H) | exact H
             have Ny343 := zpao hy343
             clear hy343
             by_cases c34 : y340.length + y343.length < 5864062014805
             ·rw [if_pos c34] at H
              have LMc34 := zpao c34
              clear c34
              obtain ⟨y348, hy348⟩ : ∃ y_ : List (S90), y_ = (y340 ++ y343) := ⟨_, rfl⟩
              replace H : ((stowageref04_Disk_Fail.f k1 l0_0 y327 a0_2 a0_3 y348 a0_5 ((rd_T90 zpaq zpax).f1) ((rd_T90 zpaq zpax).f2)).bind fun bt351 => (some (bt351.1, bt351.2.1, bt351.2.2.1, bt351.2.2.2.1, bt351.2.2.2.2.1, bt351.2.2.2.2.2, 21))) = some (r1, r2, r3, r4, r5, r6, r7) := by first | (rw [hy348]; with_reducible exact H) | (have H2_ := (Option.bind_some _ _).symm.trans H; rw [hy348]; with_reducible exact H2_) | (have H2_ := (Option.bind_some _ _).symm.trans H; with_reducible exact H2_) | with_reducible exact H | (rw [hy348]; exact H) | exact H
              have Ny348 := zpao hy348
              clear hy348
              replace H := Option.bind_eq_some_iff.mp H
              obtain ⟨⟨t351, t354, t357, t358, t359, t362⟩, A350, H⟩ := H
              replace H : (some (t351, t354, t357, t358, t359, t362, 21)) = some (r1, r2, r3, r4, r5, r6, r7) := H
              have A35 := zpao A350
              clear A350
              simp only [Option.some.injEq, Prod.mk.injEq] at H
              obtain ⟨rfl, rfl, rfl, rfl, rfl, rfl, rfl⟩ := H
              have hnb36 := zpbm.out
              have hnc36 := zpbi.out
              have hnb37 := zpbn.out
              have hnc37 := zpbg.out
              have zpcz : wr.cell? ⟨zpar, 0, none⟩ = some (.slice A0_0 l0_0.length c0_0) := (zpak zpap.out 0).trans rfl
              have zpda : wr.cell? ⟨zpar, 1, none⟩ = some (u315001) := (zpak zpap.out 1).trans rfl
              have zpdb : wr.cell? ⟨zpar, 2, none⟩ = some (.int .i64 a0_2) := (zpak zpap.out 2).trans rfl
              have zpdc : wr.cell? ⟨zpar, 3, none⟩ = some (.bool a0_3) := (zpak zpap.out 3).trans rfl
              have zpdd : wr.cell? ⟨zpar, 4, none⟩ = some (u315004) := (zpak zpap.out 4).trans rfl
              have zpde : wr.cell? ⟨zpar, 5, none⟩ = some (.int .i64 a0_5) := (zpak zpap.out 5).trans rfl
              have zpdf := zpal zpap.out 0
              have zpdg := zpal zpap.out 1
              have zpdh := zpal zpap.out 2
              have zpdi := zpal zpap.out 3
              have zpdj := zpal zpap.out 4
              have zpdk := zpal zpap.out 5
              obtain ⟨Ao39, co39, eo39⟩ := Kd.V_slice HO_315004.out
              subst eo39
              have p330 : 0 ≤ (zpax : Int) := of_decide_eq_true (by first | (with_reducible assumption) | assumption)
              have q330 : zpax < (zpaq.length : Int) := of_decide_eq_true (by first | (with_reducible assumption) | assumption)
              obtain ⟨ad330, e330, hx330_0, hx330_1, hx330_2⟩ := at_T90 (Kd.V_reads' HO_315004.out).2.2 zpax p330 q330
              cases e330
              replace p330 := eq_true p330
              replace q330 := eq_true q330
              try go_wp2_with (first | ((with_reducible refine gate_dst (N := 9) rfl ?_); refine box_event ?hg (N := 9) ?hd (cs := #[.int .i64 0, .int .i64 0, .int .i64 0]) (t := 90) ?hr ?_; (case hd => rfl); (case hg => rfl); (case hr => first | (go_simp; done) | (go_simp; rfl)); intro zpaw hg w40 hbox hb; have n0_ := zpao (Kd.R_below (zrk HO_7) hb); have n1_ := zpao (Kd.V_below (Kd.V_elderB (zvk HO_315000) zpaw (Nat.le_of_eq hg.symm)) hb); have n2_ := zpao (Kd.V_below (Kd.V_elderB (zvk HO_315001) zpaw (Nat.le_of_eq hg.symm)) hb); have n3_ := zpao (Kd.V_below (Kd.V_elderB (zvk HO_315004) zpaw (Nat.le_of_eq hg.symm)) hb); have n4_ := zpao (blk_below (g := zpar) (o := .cells #[.slice A0_0 l0_0.length c0_0, u315001, .int .i64 a0_2, .bool a0_3, .slice (some ad330) zpaq.length co39, .int .i64 a0_5] 57 (0, 0)) (zbk zpap) hb); have n5_ := zpao (blk_below (g := zpav) (o := .cells #[.int .i64 a1_0, .string a1_1, .string a1_2, .string a1_3, .int .i64 a1_4] 86 (0, 0)) (zbk zpas) hb); have n6_ := zpao (blk_below (g := zpat) (o := .cells #[.slice none 0 0, .slice none 0 0, .int .i64 zpbe, .bool zpbd, .slice none 0 0, .int .i64 zpbc] 57 (0, 0)) (zbk zpau) hb); have n7_ := zpao (below_step (by repeat (first | (with_reducible first | exact HB.out | apply zpaj | apply zpah | apply zpai | refine zpag ?_ zpay.out | refine zpag ?_ zpaz.out | refine zpag ?_ zpbb.out) | exact HB.out)) hb); have n8_ := zpao (hbox); have n9_ := zpao ((by rw [hg]; exact (below_size (by repeat (first | (with_reducible first | exact HB.out | apply zpaj | apply zpah | apply zpai | refine zpag ?_ zpay.out | refine zpag ?_ zpaz.out | refine zpag ?_ zpbb.out) | exact HB.out))) : w.heap.size ≤ zpaw)); have n10_ := zpao ((by rw [hg]; exact (below_size (by repeat (first | (with_reducible first | exact HB.out | apply zpaj | apply zpah | apply zpai | refine zpag ?_ zpay.out | refine zpag ?_ zpaz.out | refine zpag ?_ zpbb.out) | exact HB.out))) : w.heap.size ≤ zpaw)); have n11_ := zpao ((by rw [hg]; exact zpam (blk_lt (g := zpar) (o := .cells #[.slice A0_0 l0_0.length c0_0, u315001, .int .i64 a0_2, .bool a0_3, .slice (some ad330) zpaq.length co39, .int .i64 a0_5] 57 (0, 0)) (zbk zpap)) : zpar ≠ zpaw)); have n12_ := zpao ((by rw [hg]; exact zpan (blk_lt (g := zpar) (o := .cells #[.slice A0_0 l0_0.length c0_0, u315001, .int .i64 a0_2, .bool a0_3, .slice (some ad330) zpaq.length co39, .int .i64 a0_5] 57 (0, 0)) (zbk zpap)) : zpaw ≠ zpar)); have n13_ := zpao ((by rw [hg]; exact zpam (blk_lt (g := zpav) (o := .cells #[.int .i64 a1_0, .string a1_1, .string a1_2, .string a1_3, .int .i64 a1_4] 86 (0, 0)) (zbk zpas)) : zpav ≠ zpaw)); have n14_ := zpao ((by rw [hg]; exact zpan (blk_lt (g := zpav) (o := .cells #[.int .i64 a1_0, .string a1_1, .string a1_2, .string a1_3, .int .i64 a1_4] 86 (0, 0)) (zbk zpas)) : zpaw ≠ zpav)); have n15_ := zpao ((by rw [hg]; exact zpam (blk_lt (g := zpat) (o := .cells #[.slice none 0 0, .slice none 0 0, .int .i64 zpbe, .bool zpbd, .slice none 0 0, .int .i64 zpbc] 57 (0, 0)) (zbk zpau)) : zpat ≠ zpaw)); have n16_ := zpao ((by rw [hg]; exact zpan (blk_lt (g := zpat) (o := .cells #[.slice none 0 0, .slice none 0 0, .int .i64 zpbe, .bool zpbd, .slice none 0 0, .int .i64 zpbc] 57 (0, 0)) (zbk zpau)) : zpaw ≠ zpat)); clear HO_7; clear HO_315000; clear HO_315001; clear HO_315004; clear zpap; clear zpas; clear zpau; clear HB; have HO_7 := n0_; have HO_315000 := n1_; have HO_315001 := n2_; have HO_315004 := n3_; have zpap := n4_; have zpas := n5_; have zpau := n6_; have HB := n7_; have zpba := n8_; have zpcy := n9_; have zpbf := n10_; have zpbh := n11_; have zpbp := n12_; have zpbj := n13_; have zpbs := n14_; have zpbk := n15_; have zpbt := n16_; clear n0_ n1_ n2_ n3_ n4_ n5_ n6_ n7_ n8_ n9_ n10_ n11_ n12_ n13_ n14_ n15_ n16_; clear hb hbox hg; have hnb41 := zpbp.out; have hnc41 := zpbh.out; have hnb42 := zpbs.out; have hnc42 := zpbj.out; have hnb43 := zpbt.out; have hnc43 := zpbk.out; have zpdl : w40.cell? ⟨zpaw, 0, none⟩ = some (.int .i64 0) := (zpak zpba.out 0).trans rfl; have zpdm : w40.cell? ⟨zpaw, 1, none⟩ = some (.int .i64 0) := (zpak zpba.out 1).trans rfl; have zpdn : w40.cell? ⟨zpaw, 2, none⟩ = some (.int .i64 0) := (zpak zpba.out 2).trans rfl; have zpdo := zpal zpba.out 0; have zpdp := zpal zpba.out 1; have zpdq := zpal zpba.out 2; have zpdr : w40.cell? ⟨zpar, 0, none⟩ = some (.slice A0_0 l0_0.length c0_0) := (zpak zpap.out 0).trans rfl; have zpds : w40.cell? ⟨zpar, 1, none⟩ = some (u315001) := (zpak zpap.out 1).trans rfl; have zpdt : w40.cell? ⟨zpar, 2, none⟩ = some (.int .i64 a0_2) := (zpak zpap.out 2).trans rfl; have zpdu : w40.cell? ⟨zpar, 3, none⟩ = some (.bool a0_3) := (zpak zpap.out 3).trans rfl; have zpdv : w40.cell? ⟨zpar, 4, none⟩ = some (.slice (some ad330) zpaq.length co39) := (zpak zpap.out 4).trans rfl; have zpdw : w40.cell? ⟨zpar, 5, none⟩ = some (.int .i64 a0_5) := (zpak zpap.out 5).trans rfl; have zpdx := zpal zpap.out 0; have zpdy := zpal zpap.out 1; have zpdz := zpal zpap.out 2; have zpea := zpal zpap.out 3; have zpeb := zpal zpap.out 4; have zpec := zpal zpap.out 5))
              have n0_ : Aside0 (Kd.R k86 86 (((w40.setCell ⟨zpaw, 0, none⟩ (.int .i64 ((rd_T90 zpaq zpax).f0))).setCell ⟨zpaw, 1, none⟩ (.int .i64 ((rd_T90 zpaq zpax).f1))).setCell ⟨zpaw, 2, none⟩ (.int .i64 ((rd_T90 zpaq zpax).f2))) w.heap.size (fun k_ => (w.heap.size ≤ k_) ∧ k_ ≠ zpav) v328 y327) := ⟨by (with_reducible repeat (first | apply Kd.R_alloc | apply Kd.R_drewN | apply Kd.R_drew)); exact Kd.R_mono (Kd.R_far (p := ⟨zpaw, 2, none⟩) (Kd.R_far (p := ⟨zpaw, 1, none⟩) (Kd.R_far (p := ⟨zpaw, 0, none⟩) (Kd.R_types HO_7.out zpba.out (by decide)) (fun _ hk => hk.2) (.int .i64 ((rd_T90 zpaq zpax).f0))) (fun _ hk => hk.2) (.int .i64 ((rd_T90 zpaq zpax).f1))) (fun _ hk => hk.2) (.int .i64 ((rd_T90 zpaq zpax).f2))) (fun _ hk => ⟨hk.1.1, hk.1.2⟩)⟩
              have n1_ : Aside0 (Kd.V k48 48 (((w40.setCell ⟨zpaw, 0, none⟩ (.int .i64 ((rd_T90 zpaq zpax).f0))).setCell ⟨zpaw, 1, none⟩ (.int .i64 ((rd_T90 zpaq zpax).f1))).setCell ⟨zpaw, 2, none⟩ (.int .i64 ((rd_T90 zpaq zpax).f2))) w.heap.size (fun k_ => ((P0_0_ k_ ∨ P0_1_ k_ ∨ P0_4_ k_) ∨ w.heap.size ≤ k_) ∧ some k_ ≠ (v328 : Value).ownBlock ∧ k_ ≠ zpar ∧ k_ ≠ zpav ∧ k_ ≠ zpat ∧ k_ ≠ zpaw) (.slice A0_0 l0_0.length c0_0) l0_0) := ⟨by (with_reducible repeat (first | apply Kd.V_alloc | apply Kd.V_drewN | apply Kd.V_drew)); exact Kd.V_mono (Kd.V_far (p := ⟨zpaw, 2, none⟩) (Kd.V_far (p := ⟨zpaw, 1, none⟩) (Kd.V_far (p := ⟨zpaw, 0, none⟩) (Kd.V_mono HO_315000.out (fun k_ hk => (⟨hk, hk.2⟩ : _ ∧ k_ ≠ zpaw))) (fun _ hk => hk.2) (.int .i64 ((rd_T90 zpaq zpax).f0))) (fun _ hk => hk.2) (.int .i64 ((rd_T90 zpaq zpax).f1))) (fun _ hk => hk.2) (.int .i64 ((rd_T90 zpaq zpax).f2))) (fun _ hk => ⟨hk.1.1.1, ⟨hk.1.1.2.1, ⟨hk.1.1.2.2.1, ⟨hk.1.1.2.2.2.1, ⟨hk.1.1.2.2.2.2, hk.1.2⟩⟩⟩⟩⟩)⟩
              have n2_ : Aside0 (Kd.V k86 86 (((w40.setCell ⟨zpaw, 0, none⟩ (.int .i64 ((rd_T90 zpaq zpax).f0))).setCell ⟨zpaw, 1, none⟩ (.int .i64 ((rd_T90 zpaq zpax).f1))).setCell ⟨zpaw, 2, none⟩ (.int .i64 ((rd_T90 zpaq zpax).f2))) w.heap.size (fun k_ => ((P0_0_ k_ ∨ P0_1_ k_ ∨ P0_4_ k_) ∨ w.heap.size ≤ k_) ∧ some k_ ≠ (v328 : Value).ownBlock ∧ k_ ≠ zpar ∧ k_ ≠ zpav ∧ k_ ≠ zpat ∧ k_ ≠ zpaw) u315001 zpbo) := ⟨by (with_reducible repeat (first | apply Kd.V_alloc | apply Kd.V_drewN | apply Kd.V_drew)); exact Kd.V_mono (Kd.V_far (p := ⟨zpaw, 2, none⟩) (Kd.V_far (p := ⟨zpaw, 1, none⟩) (Kd.V_far (p := ⟨zpaw, 0, none⟩) (Kd.V_mono HO_315001.out (fun k_ hk => (⟨hk, hk.2⟩ : _ ∧ k_ ≠ zpaw))) (fun _ hk => hk.2) (.int .i64 ((rd_T90 zpaq zpax).f0))) (fun _ hk => hk.2) (.int .i64 ((rd_T90 zpaq zpax).f1))) (fun _ hk => hk.2) (.int .i64 ((rd_T90 zpaq zpax).f2))) (fun _ hk => ⟨hk.1.1.1, ⟨hk.1.1.2.1, ⟨hk.1.1.2.2.1, ⟨hk.1.1.2.2.2.1, ⟨hk.1.1.2.2.2.2, hk.1.2⟩⟩⟩⟩⟩)⟩
              have n3_ : Aside0 (Kd.V k90 90 (((w40.setCell ⟨zpaw, 0, none⟩ (.int .i64 ((rd_T90 zpaq zpax).f0))).setCell ⟨zpaw, 1, none⟩ (.int .i64 ((rd_T90 zpaq zpax).f1))).setCell ⟨zpaw, 2, none⟩ (.int .i64 ((rd_T90 zpaq zpax).f2))) w.heap.size (fun k_ => ((P0_0_ k_ ∨ P0_1_ k_ ∨ P0_4_ k_) ∨ w.heap.size ≤ k_) ∧ some k_ ≠ (v328 : Value).ownBlock ∧ k_ ≠ zpar ∧ k_ ≠ zpav ∧ k_ ≠ zpat ∧ k_ ≠ zpaw) (.slice (some ad330) zpaq.length co39) zpaq) := ⟨by (with_reducible repeat (first | apply Kd.V_alloc | apply Kd.V_drewN | apply Kd.V_drew)); exact Kd.V_mono (Kd.V_far (p := ⟨zpaw, 2, none⟩) (Kd.V_far (p := ⟨zpaw, 1, none⟩) (Kd.V_far (p := ⟨zpaw, 0, none⟩) (Kd.V_mono HO_315004.out (fun k_ hk => (⟨hk, hk.2⟩ : _ ∧ k_ ≠ zpaw))) (fun _ hk => hk.2) (.int .i64 ((rd_T90 zpaq zpax).f0))) (fun _ hk => hk.2) (.int .i64 ((rd_T90 zpaq zpax).f1))) (fun _ hk => hk.2) (.int .i64 ((rd_T90 zpaq zpax).f2))) (fun _ hk => ⟨hk.1.1.1, ⟨hk.1.1.2.1, ⟨hk.1.1.2.2.1, ⟨hk.1.1.2.2.2.1, ⟨hk.1.1.2.2.2.2, hk.1.2⟩⟩⟩⟩⟩)⟩
              have n4_ : Aside0 ((((w40.setCell ⟨zpaw, 0, none⟩ (.int .i64 ((rd_T90 zpaq zpax).f0))).setCell ⟨zpaw, 1, none⟩ (.int .i64 ((rd_T90 zpaq zpax).f1))).setCell ⟨zpaw, 2, none⟩ (.int .i64 ((rd_T90 zpaq zpax).f2))).heap[zpar]? = some (.cells #[.slice A0_0 l0_0.length c0_0, u315001, .int .i64 a0_2, .bool a0_3, .slice (some ad330) zpaq.length co39, .int .i64 a0_5] 57 (0, 0))) := ⟨by (iterate 3 ((with_reducible repeat (first | refine zpad ?_ _ | refine zpaf ?_ | refine zpae ?_ _)); refine blk_far ?_ zpbh.out _)); exact zbk zpap⟩
              have n5_ : Aside0 ((((w40.setCell ⟨zpaw, 0, none⟩ (.int .i64 ((rd_T90 zpaq zpax).f0))).setCell ⟨zpaw, 1, none⟩ (.int .i64 ((rd_T90 zpaq zpax).f1))).setCell ⟨zpaw, 2, none⟩ (.int .i64 ((rd_T90 zpaq zpax).f2))).heap[zpav]? = some (.cells #[.int .i64 a1_0, .string a1_1, .string a1_2, .string a1_3, .int .i64 a1_4] 86 (0, 0))) := ⟨by (iterate 3 ((with_reducible repeat (first | refine zpad ?_ _ | refine zpaf ?_ | refine zpae ?_ _)); refine blk_far ?_ zpbj.out _)); exact zbk zpas⟩
              have n6_ : Aside0 ((((w40.setCell ⟨zpaw, 0, none⟩ (.int .i64 ((rd_T90 zpaq zpax).f0))).setCell ⟨zpaw, 1, none⟩ (.int .i64 ((rd_T90 zpaq zpax).f1))).setCell ⟨zpaw, 2, none⟩ (.int .i64 ((rd_T90 zpaq zpax).f2))).heap[zpat]? = some (.cells #[.slice none 0 0, .slice none 0 0, .int .i64 zpbe, .bool zpbd, .slice none 0 0, .int .i64 zpbc] 57 (0, 0))) := ⟨by (iterate 3 ((with_reducible repeat (first | refine zpad ?_ _ | refine zpaf ?_ | refine zpae ?_ _)); refine blk_far ?_ zpbk.out _)); exact zbk zpau⟩
              have n7_ : Aside0 ((((w40.setCell ⟨zpaw, 0, none⟩ (.int .i64 ((rd_T90 zpaq zpax).f0))).setCell ⟨zpaw, 1, none⟩ (.int .i64 ((rd_T90 zpaq zpax).f1))).setCell ⟨zpaw, 2, none⟩ (.int .i64 ((rd_T90 zpaq zpax).f2))).heap[zpaw]? = some (.cells #[.int .i64 ((rd_T90 zpaq zpax).f0), .int .i64 ((rd_T90 zpaq zpax).f1), .int .i64 ((rd_T90 zpaq zpax).f2)] 90 (0, 0))) := ⟨by (with_reducible repeat (first | refine zpad ?_ _ | refine zpaf ?_ | refine zpae ?_ _)); refine blk_put (cs := #[.int .i64 ((rd_T90 zpaq zpax).f0), .int .i64 ((rd_T90 zpaq zpax).f1), .int .i64 0]) ?_ 2 _ rfl; (with_reducible repeat (first | refine zpad ?_ _ | refine zpaf ?_ | refine zpae ?_ _)); refine blk_put (cs := #[.int .i64 ((rd_T90 zpaq zpax).f0), .int .i64 0, .int .i64 0]) ?_ 1 _ rfl; (with_reducible repeat (first | refine zpad ?_ _ | refine zpaf ?_ | refine zpae ?_ _)); refine blk_put (cs := #[.int .i64 0, .int .i64 0, .int .i64 0]) ?_ 0 _ rfl; exact zbk zpba⟩
              have n8_ : Aside0 (Below w.heap.size w (((w40.setCell ⟨zpaw, 0, none⟩ (.int .i64 ((rd_T90 zpaq zpax).f0))).setCell ⟨zpaw, 1, none⟩ (.int .i64 ((rd_T90 zpaq zpax).f1))).setCell ⟨zpaw, 2, none⟩ (.int .i64 ((rd_T90 zpaq zpax).f2)))) := ⟨by repeat (first | (with_reducible first | exact HB.out | apply zpaj | apply zpah | apply zpai | refine zpag ?_ zpay.out | refine zpag ?_ zpaz.out | refine zpag ?_ zpbb.out | refine zpag ?_ zpbf.out) | exact HB.out)⟩
              (try clear HO_7)
              (try clear HO_315000)
              (try clear HO_315001)
              (try clear HO_315004)
              (try clear zpap)
              (try clear zpas)
              (try clear zpau)
              (try clear zpba)
              (try clear HB)
              generalize (((w40.setCell ⟨zpaw, 0, none⟩ (.int .i64 ((rd_T90 zpaq zpax).f0))).setCell ⟨zpaw, 1, none⟩ (.int .i64 ((rd_T90 zpaq zpax).f1))).setCell ⟨zpaw, 2, none⟩ (.int .i64 ((rd_T90 zpaq zpax).f2))) = w46 at n0_ n1_ n2_ n3_ n4_ n5_ n6_ n7_ n8_ ⊢
              have HO_7 := n0_
              have HO_315000 := n1_
              have HO_315001 := n2_
              have HO_315004 := n3_
              have zpap := n4_
              have zpas := n5_
              have zpau := n6_
              have zpba := n7_
              have HB := n8_
              clear n0_ n1_ n2_ n3_ n4_ n5_ n6_ n7_ n8_
              have n0_ := zpao (Kd.R_drew HO_7.out)
              have n1_ := zpao (Kd.V_drew HO_315000.out)
              have n2_ := zpao (Kd.V_drew HO_315001.out)
              have n3_ := zpao (Kd.V_drew HO_315004.out)
              have n4_ := zpao (zpaf zpap.out)
              have n5_ := zpao (zpaf zpas.out)
              have n6_ := zpao (zpaf zpau.out)
              have n7_ := zpao (zpaf zpba.out)
              have n8_ := zpao (zpai HB.out)
              clear HO_7
              clear HO_315000
              clear HO_315001
              clear HO_315004
              clear zpap
              clear zpas
              clear zpau
              clear zpba
              clear HB
              have HO_7 := n0_
              have HO_315000 := n1_
              have HO_315001 := n2_
              have HO_315004 := n3_
              have zpap := n4_
              have zpas := n5_
              have zpau := n6_
              have zpba := n7_
              have HB := n8_
              clear n0_ n1_ n2_ n3_ n4_ n5_ n6_ n7_ n8_
              have q48 : (zpax : Int) ≤ ((zpaq.length : Int) : Int) := of_decide_eq_true (by first | (with_reducible assumption) | assumption)
              obtain ⟨i048, hi048, _, hsz48, _⟩ := info_parts info90
              have hroom48 : zpaq.length ≤ co39 := (Kd.V_reads' HO_315004.out).2.1
              have hC48 : Kd.F k90 _ _ (some ad330) zpaq.length zpaq := (Kd.V_at (base := w.heap.size) HO_315004.out).2.2
              have hcut48 := cut_to (P := Try.prog) 55 90 .i64 Try.underlying55 hi048 (some ad330) zpaq.length co39 zpax (of_decide_eq_true (by first | (with_reducible assumption) | assumption)) q48 hroom48
              have hr48 := Kd.F_take (m := (zpax : Int).toNat) hC48 (by omega)
              have hy48 : y335.length = (zpax : Int).toNat := (by rw [Ny335.out, List.length_take]; omega)
              rw [← Ny335.out] at hr48
              rw [← hy48] at hcut48
              have HO339 := zpao (show Kd.V k90 90 _ w.heap.size _ (.slice (some ad330) y335.length co39) y335 from Kd.V_mk (by omega) hr48)
              have HC339 := zpao (show y335.length ≤ co39 from by omega)
              clear hr48 hC48 hroom48 hi048 hsz48
              have KY48 := zpao hy48
              clear hy48
              replace q48 := eq_true q48
              have q49 : ((ji31) : Int) ≤ ((zpaq.length : Int) : Int) := of_decide_eq_true (by first | (with_reducible assumption) | assumption)
              obtain ⟨i049, hi049, _, hsz49, _⟩ := info_parts info90
              have hroom49 : zpaq.length ≤ co39 := (Kd.V_reads' HO_315004.out).2.1
              have hC49 : Kd.F k90 _ _ (some ad330) zpaq.length zpaq := (Kd.V_at (base := w.heap.size) HO_315004.out).2.2
              have q049 : (0 : Int) ≤ ((ji31) : Int) := of_decide_eq_true (by first | (with_reducible assumption) | assumption)
              have hcut49 := cut_from (P := Try.prog) 55 90 .i64 Try.underlying55 hi049 3 hsz49 (some ad330) zpaq.length co39 (ji31) q049 q49
              have hr49 := Kd.F_cut (m := ((ji31) : Int).toNat) (c := co39) hC49 (by omega) hroom49
              obtain ⟨A49, hA49⟩ : ∃ A1, A1 = (if co39 = ((ji31) : Int).toNat then (some ad330) else ((some ad330) : Option Addr).map (·.add (((ji31) : Int).toNat * 3))) := ⟨_, rfl⟩
              obtain ⟨c49, hc49⟩ : ∃ c1, c1 = co39 - ((ji31) : Int).toNat := ⟨_, rfl⟩
              have hy49 : y343.length = zpaq.length - ((ji31) : Int).toNat := (by rw [Ny343.out, List.length_drop] <;> omega)
              rw [show (zpaq).drop ((ji31) : Int).toNat = y343 from Ny343.out.symm] at hr49
              replace hr49 : Kd.F k90 _ _ A49 y343.length y343 := (by rw [hA49]; exact hr49)
              rw [← hy49, ← hA49, ← hc49] at hcut49
              have HO347 := zpao (show Kd.V k90 90 _ w.heap.size _ (.slice A49 y343.length c49) y343 from Kd.V_mk (by rw [hy49, hc49]; exact Nat.sub_le_sub_right hroom49 _) hr49)
              have HC347 := zpao (show y343.length ≤ c49 from by rw [hy49, hc49]; exact Nat.sub_le_sub_right hroom49 _)
              clear hr49 hC49 hroom49 hi049 hsz49 hc49
              have KY49 := zpao hy49
              have KA49 := zpao hA49
              clear hy49 hA49
              replace q49 := eq_true q49
              refine start_ (n := 14) (S := fun w' => w'.cell? ⟨zpar, 0, none⟩ = some (.slice A0_0 l0_0.length c0_0) ∧ w'.cell? ⟨zpar, 1, none⟩ = some (u315001) ∧ w'.cell? ⟨zpar, 2, none⟩ = some (.int .i64 a0_2) ∧ w'.cell? ⟨zpar, 3, none⟩ = some (.bool a0_3) ∧ w'.cell? ⟨zpar, 4, none⟩ = some (.slice (some ad330) zpaq.length co39) ∧ w'.cell? ⟨zpar, 5, none⟩ = some (.int .i64 a0_5)) (ds := [13]) zpsq0 (by kernel_rfl) rfl rfl ⟨(zpak zpap.out 0).trans rfl, (zpak zpap.out 1).trans rfl, (zpak zpap.out 2).trans rfl, (zpak zpap.out 3).trans rfl, (zpak zpap.out 4).trans rfl, (zpak zpap.out 5).trans rfl⟩ (fun hHeld => ?_); refine with_tabW stowageref04_Disk_Make.tab10 stowageref04_Disk_Make.bits10 (fun HT_ HW_ => ?_)
              generalize w46.drew = w47 at HO_7 HO_315000 HO_315001 HO_315004 zpap zpas zpau zpba HB HO339 HO347 hHeld ⊢
              refine pure_ (i := 1) (N := some 42) (v := ?_) (a' := ?_) zpsq1 rfl rfl (any_of HT_.out (by kernel_rfl)) (fun _ _ _ h => h) (Or.inl ⟨by rfl, ?_⟩) ?_ ?_
              rotate_left
              ·intro w'
               go_simp
               with_reducible rfl
              rotate_left
              ·simp only [Act.put, zpaa, zpab, zpac, i64_w, i32_w]
               rfl
              refine pure_ (i := 3) (N := some 44) (v := ?_) (a' := ?_) zpsq2 rfl rfl (any_of HT_.out (by kernel_rfl)) (fun _ _ _ h => h) (Or.inl ⟨by rfl, ?_⟩) ?_ ?_
              rotate_left
              ·intro w'
               go_simp
               with_reducible rfl
              rotate_left
              ·simp only [Act.put, zpaa, zpab, zpac, i64_w, i32_w]
               rfl
              refine pure_ (i := 6) (N := some 47) (v := ?_) (a' := ?_) zpsq3 rfl rfl (any_of HT_.out (by kernel_rfl)) (fun _ _ _ h => h) (Or.inl ⟨by rfl, ?_⟩) ?_ ?_
              rotate_left
              ·intro w'
               go_simp
               with_reducible rfl
              rotate_left
              ·simp only [Act.put, zpaa, zpab, zpac, i64_w, i32_w]
               rfl
              refine pure_ (i := 8) (N := some 49) (v := ?_) (a' := ?_) zpsq4 rfl rfl (any_of HT_.out (by kernel_rfl)) (fun _ _ _ h => h) (Or.inl ⟨by rfl, ?_⟩) ?_ ?_
              rotate_left
              ·intro w'
               go_simp
               with_reducible rfl
              rotate_left
              ·simp only [Act.put, zpaa, zpab, zpac, i64_w, i32_w]
               rfl
              refine pure_ (i := 9) (N := some 50) (v := ?_) (a' := ?_) zpsq5 rfl rfl (any_of HT_.out (by kernel_rfl)) (fun _ _ _ h => h) (Or.inl ⟨by rfl, ?_⟩) ?_ ?_
              rotate_left
              ·intro w'
               go_simp
               with_reducible rfl
              rotate_left
              ·simp only [Act.put, zpaa, zpab, zpac, i64_w, i32_w]
               rfl
              refine take_ (i := 2) (N := some 43) (v := ?_) (a' := ?_) zpsq6 rfl rfl (take_ofW HT_.out HW_.out (by kernel_rfl)) (fun _ _ _ h => h) (Or.inl ⟨by rfl, ?_⟩) hHeld ?_ ?_
              rotate_left
              ·rintro w' ⟨s0, s1, s2, s3, s4, s5⟩
               go_simp
               with_reducible rfl
              rotate_left
              ·simp only [Act.put, zpaa, zpab, zpac, i64_w, i32_w]
               rfl
              refine pure_ (i := 4) (N := some 45) (v := ?_) (a' := ?_) zpsq7 rfl rfl (any_of HT_.out (by kernel_rfl)) (fun _ _ _ h => h) (Or.inl ⟨by rfl, ?_⟩) ?_ ?_
              rotate_left
              ·intro w'
               go_simp
               with_reducible rfl
              rotate_left
              ·simp only [Act.put, zpaa, zpab, zpac, i64_w, i32_w]
               rfl
              refine take_ (i := 7) (N := some 48) (v := ?_) (a' := ?_) zpsq8 rfl rfl (take_ofW HT_.out HW_.out (by kernel_rfl)) (fun _ _ _ h => h) (Or.inl ⟨by rfl, ?_⟩) hHeld ?_ ?_
              rotate_left
              ·rintro w' ⟨s0, s1, s2, s3, s4, s5⟩
               go_simp
               with_reducible rfl
              rotate_left
              ·simp only [Act.put, zpaa, zpab, zpac, i64_w, i32_w]
               rfl
              refine pure_ (i := 10) (N := some 51) (v := ?_) (a' := ?_) zpsq9 rfl rfl (any_of HT_.out (by kernel_rfl)) (fun _ _ _ h => h) (Or.inl ⟨by rfl, ?_⟩) ?_ ?_
              rotate_left
              ·intro w'
               go_simp
               with_reducible rfl
              rotate_left
              ·simp only [Act.put, zpaa, zpab, zpac, i64_w, i32_w]
               rfl
              refine one_ (i := 0) (N := some 41) zpsq10 rfl rfl (one_of HT_.out (by kernel_rfl)) (by decide) (fun K hK => ?_)
              refine Kd.R_lit_step k90 _ 90 ?hg (N := 41) ?hd (xs := ([] : List (S90))) (inner := []) (ok := fun _ => True) (okp := fun _ => True) ?hr ?hp (fun _ hk => hk) trivial (Below.refl _ _) (Nat.le_refl _) (by simp) ?_; (case hd => rfl); (case hg => rfl); (case hr => first | (go_simp; done) | (go_simp; rfl)); (case hp => exact (Reps.none _ _))
              intro v333 w50 ho51 hb hg_ hnew_
              clear hg_ hnew_
              (first | rw [← Ny332.out] at ho51 | (simp only [Int.reduceToNat] at ho51; rw [← Ny332.out] at ho51))
              have n0_ := zpao (Kd.R_below (zrk HO_7) hb)
              have n1_ := zpao (Kd.V_elder' (zvk HO_315000) (Kd.R_base ho51) hb)
              have n2_ := zpao (Kd.V_elder' (zvk HO_315001) (Kd.R_base ho51) hb)
              have n3_ := zpao (Kd.V_elder' (zvk HO_315004) (Kd.R_base ho51) hb)
              have n4_ := zpao (Kd.V_elder' (zvk HO339) (Kd.R_base ho51) hb)
              have n5_ := zpao (Kd.V_elder' (zvk HO347) (Kd.R_base ho51) hb)
              have n6_ := zpao (Kd.R_lower (Kd.R_newB (Kd.R_newM (M := fun k_ => (w.heap.size ≤ k_)) ho51 (below_size (by repeat (first | (with_reducible first | exact HB.out | apply zpaj | apply zpah | apply zpai | refine zpag ?_ zpay.out | refine zpag ?_ zpaz.out | refine zpag ?_ zpbb.out | refine zpag ?_ zpbf.out) | exact HB.out))) (fun k_ h_ => h_)) (g := zpaw) (o := .cells #[.int .i64 ((rd_T90 zpaq zpax).f0), .int .i64 ((rd_T90 zpaq zpax).f1), .int .i64 ((rd_T90 zpaq zpax).f2)] 90 (0, 0)) (zbk zpba)) (below_size (by repeat (first | (with_reducible first | exact HB.out | apply zpaj | apply zpah | apply zpai | refine zpag ?_ zpay.out | refine zpag ?_ zpaz.out | refine zpag ?_ zpbb.out | refine zpag ?_ zpbf.out) | exact HB.out))))
              have n7_ := zpao (blk_below (g := zpar) (o := .cells #[.slice A0_0 l0_0.length c0_0, u315001, .int .i64 a0_2, .bool a0_3, .slice (some ad330) zpaq.length co39, .int .i64 a0_5] 57 (0, 0)) (zbk zpap) hb)
              have n8_ := zpao (blk_below (g := zpav) (o := .cells #[.int .i64 a1_0, .string a1_1, .string a1_2, .string a1_3, .int .i64 a1_4] 86 (0, 0)) (zbk zpas) hb)
              have n9_ := zpao (blk_below (g := zpat) (o := .cells #[.slice none 0 0, .slice none 0 0, .int .i64 zpbe, .bool zpbd, .slice none 0 0, .int .i64 zpbc] 57 (0, 0)) (zbk zpau) hb)
              have n10_ := zpao (blk_below (g := zpaw) (o := .cells #[.int .i64 ((rd_T90 zpaq zpax).f0), .int .i64 ((rd_T90 zpaq zpax).f1), .int .i64 ((rd_T90 zpaq zpax).f2)] 90 (0, 0)) (zbk zpba) hb)
              have n11_ := zpao (below_step (by repeat (first | (with_reducible first | exact HB.out | apply zpaj | apply zpah | apply zpai | refine zpag ?_ zpay.out | refine zpag ?_ zpaz.out | refine zpag ?_ zpbb.out | refine zpag ?_ zpbf.out) | exact HB.out)) hb)
              clear HO_7
              clear HO_315000
              clear HO_315001
              clear HO_315004
              clear HO339
              clear HO347
              clear zpap
              clear zpas
              clear zpau
              clear zpba
              clear HB
              have HO_7 := n0_
              have HO_315000 := n1_
              have HO_315001 := n2_
              have HO_315004 := n3_
              have HO339 := n4_
              have HO347 := n5_
              have HO334 := n6_
              have zpap := n7_
              have zpas := n8_
              have zpau := n9_
              have zpba := n10_
              have HB := n11_
              clear n0_ n1_ n2_ n3_ n4_ n5_ n6_ n7_ n8_ n9_ n10_ n11_
              clear hb ho51
              refine hK.out _ _ ⟨(zpak zpap.out 0).trans rfl, (zpak zpap.out 1).trans rfl, (zpak zpap.out 2).trans rfl, (zpak zpap.out 3).trans rfl, (zpak zpap.out 4).trans rfl, (zpak zpap.out 5).trans rfl⟩ (fun hHeld => ?_)
              clear hK K
              refine norm_ (a' := ?_) ?_ ?_
              rotate_left
              ·show Act.put _ (some 41) _ = _
               simp only [Act.put, zpaa, zpab, zpac, i64_w, i32_w]
               rfl
              refine one_ (i := 5) (N := some 46) zpsq11 rfl rfl (one_of HT_.out (by kernel_rfl)) (by decide) (fun K hK => ?_)
              refine Kd.R_append_rows_step k90 (w0 := w) w.heap.size (by rfl) (.tmp 41) (.tmp 45) 55 90 (.agg #[(.int .i64 0), (.int .i64 0), (.int .i64 0)]) 24 rfl Try.underlying55 info90 rfl (by decide) (by omega) v333 y332 y335 _ _ _ (fun k_ => (w.heap.size ≤ k_) ∧ k_ ≠ zpaw) (fun _ => False) rfl rfl ?aO ?aR (fun _ _ h => h) (fun _ h => h.elim) ?aF ?aB ?aS ?aL ?_
              (case aR => repeat (first | exact (Kd.V_reads' HO339.out).2.2 | (with_reducible refine Kd.C_alloc ?_ _) | (with_reducible refine Kd.C_drewN ?_ _) | (with_reducible refine Kd.C_drew ?_)))
              (case aB => exact (by repeat (first | (with_reducible first | exact HB.out | apply zpaj | apply zpah | apply zpai | refine zpag ?_ zpay.out | refine zpag ?_ zpaz.out | refine zpag ?_ zpbb.out | refine zpag ?_ zpbf.out) | exact HB.out)))
              (case aF => exact (fun k_ hk => ⟨(Nat.le_trans (below_size (by repeat (first | (with_reducible first | exact HB.out | apply zpaj | apply zpah | apply zpai | refine zpag ?_ zpay.out | refine zpag ?_ zpaz.out | refine zpag ?_ zpbb.out | refine zpag ?_ zpbf.out) | exact HB.out))) hk), Kd.freshB (g := zpaw) (o := .cells #[.int .i64 ((rd_T90 zpaq zpax).f0), .int .i64 ((rd_T90 zpaq zpax).f1), .int .i64 ((rd_T90 zpaq zpax).f2)] 90 (0, 0)) (zbk zpba) k_ hk⟩))
              (case aO => exact (by (with_reducible repeat (first | apply Kd.R_alloc | apply Kd.R_drewN | apply Kd.R_drew)); exact Kd.R_mono HO334.out (fun _ hk => ⟨hk.1.1, hk.2⟩)))
              (case aS => exact (below_size (by repeat (first | (with_reducible first | exact HB.out | apply zpaj | apply zpah | apply zpai | refine zpag ?_ zpay.out | refine zpag ?_ zpaz.out | refine zpag ?_ zpbb.out | refine zpag ?_ zpbf.out) | exact HB.out))))
              (case aL => have := LMc30.out; omega)
              intro v341 w52 ho hb hg hat
              rw [← Ny340.out] at ho
              have n0_ := zpao (Kd.R_over' (zrk HO_7) (Kd.R_typed (zrk HO334)) (by decide) hg)
              have n1_ := zpao (Kd.V_afterv (ok := (fun k_ => ((P0_0_ k_ ∨ P0_1_ k_ ∨ P0_4_ k_) ∨ w.heap.size ≤ k_) ∧ some k_ ≠ (v328 : Value).ownBlock ∧ k_ ≠ zpar ∧ k_ ≠ zpav ∧ k_ ≠ zpat ∧ k_ ≠ zpaw)) (zvk HO_315000) hg hat)
              have n2_ := zpao (Kd.V_afterv (ok := (fun k_ => ((P0_0_ k_ ∨ P0_1_ k_ ∨ P0_4_ k_) ∨ w.heap.size ≤ k_) ∧ some k_ ≠ (v328 : Value).ownBlock ∧ k_ ≠ zpar ∧ k_ ≠ zpav ∧ k_ ≠ zpat ∧ k_ ≠ zpaw)) (zvk HO_315001) hg hat)
              have n3_ := zpao (Kd.V_afterv (ok := (fun k_ => ((P0_0_ k_ ∨ P0_1_ k_ ∨ P0_4_ k_) ∨ w.heap.size ≤ k_) ∧ some k_ ≠ (v328 : Value).ownBlock ∧ k_ ≠ zpar ∧ k_ ≠ zpav ∧ k_ ≠ zpat ∧ k_ ≠ zpaw)) (zvk HO_315004) hg hat)
              have n4_ := zpao (blk_grown (g := zpar) (o := .cells #[.slice A0_0 l0_0.length c0_0, u315001, .int .i64 a0_2, .bool a0_3, .slice (some ad330) zpaq.length co39, .int .i64 a0_5] 57 (0, 0)) (zbk zpap) hg (Kd.R_ne HO334.out zpap.out (by decide)))
              have n5_ := zpao (blk_grown (g := zpav) (o := .cells #[.int .i64 a1_0, .string a1_1, .string a1_2, .string a1_3, .int .i64 a1_4] 86 (0, 0)) (zbk zpas) hg (Kd.R_ne HO334.out zpas.out (by decide)))
              have n6_ := zpao (blk_grown (g := zpat) (o := .cells #[.slice none 0 0, .slice none 0 0, .int .i64 zpbe, .bool zpbd, .slice none 0 0, .int .i64 zpbc] 57 (0, 0)) (zbk zpau) hg (Kd.R_ne HO334.out zpau.out (by decide)))
              have n7_ := zpao (blk_grown (g := zpaw) (o := .cells #[.int .i64 ((rd_T90 zpaq zpax).f0), .int .i64 ((rd_T90 zpaq zpax).f1), .int .i64 ((rd_T90 zpaq zpax).f2)] 90 (0, 0)) (zbk zpba) hg (Kd.R_away HO334.out (fun _ hk => hk.2)))
              have n8_ := zpao (Kd.V_afterv (ok := (fun k_ => ((P0_0_ k_ ∨ P0_1_ k_ ∨ P0_4_ k_) ∨ w.heap.size ≤ k_) ∧ some k_ ≠ (v328 : Value).ownBlock ∧ k_ ≠ zpar ∧ k_ ≠ zpav ∧ k_ ≠ zpat ∧ k_ ≠ zpaw)) (zvk HO339) hg hat)
              have n9_ := zpao (Kd.V_afterv (ok := (fun k_ => ((P0_0_ k_ ∨ P0_1_ k_ ∨ P0_4_ k_) ∨ w.heap.size ≤ k_) ∧ some k_ ≠ (v328 : Value).ownBlock ∧ k_ ≠ zpar ∧ k_ ≠ zpav ∧ k_ ≠ zpat ∧ k_ ≠ zpaw)) (zvk HO347) hg hat)
              have n10_ := zpao (hb)
              have n11_ := zpao (ho)
              clear HO_7
              clear HO_315000
              clear HO_315001
              clear HO_315004
              clear zpap
              clear zpas
              clear zpau
              clear zpba
              clear HO339
              clear HO347
              clear HB
              clear HO334
              have HO_7 := n0_
              have HO_315000 := n1_
              have HO_315001 := n2_
              have HO_315004 := n3_
              have zpap := n4_
              have zpas := n5_
              have zpau := n6_
              have zpba := n7_
              have HO339 := n8_
              have HO347 := n9_
              have HB := n10_
              have HO342 := n11_
              clear n0_ n1_ n2_ n3_ n4_ n5_ n6_ n7_ n8_ n9_ n10_ n11_
              clear ho hb hg hat
              refine hK.out _ _ ⟨(zpak zpap.out 0).trans rfl, (zpak zpap.out 1).trans rfl, (zpak zpap.out 2).trans rfl, (zpak zpap.out 3).trans rfl, (zpak zpap.out 4).trans rfl, (zpak zpap.out 5).trans rfl⟩ (fun hHeld => ?_)
              clear hK K
              refine norm_ (a' := ?_) ?_ ?_
              rotate_left
              ·show Act.put _ (some 46) _ = _
               simp only [Act.put, zpaa, zpab, zpac, i64_w, i32_w]
               rfl
              refine one_ (i := 11) (N := some 52) zpsq12 rfl rfl (one_of HT_.out (by kernel_rfl)) (by decide) (fun K hK => ?_)
              refine Kd.R_append_rows_step k90 (w0 := w) w.heap.size (by rfl) (.tmp 46) (.tmp 51) 55 90 (.agg #[(.int .i64 0), (.int .i64 0), (.int .i64 0)]) 24 rfl Try.underlying55 info90 rfl (by decide) (by omega) v341 y340 y343 _ _ _ (fun k_ => (w.heap.size ≤ k_) ∧ k_ ≠ zpaw) (fun _ => False) rfl rfl ?aO ?aR (fun _ _ h => h) (fun _ h => h.elim) ?aF ?aB ?aS ?aL ?_
              (case aR => repeat (first | exact (Kd.V_reads' HO347.out).2.2 | (with_reducible refine Kd.C_alloc ?_ _) | (with_reducible refine Kd.C_drewN ?_ _) | (with_reducible refine Kd.C_drew ?_)))
              (case aB => exact (by repeat (first | (with_reducible first | exact HB.out | apply zpaj | apply zpah | apply zpai | refine zpag ?_ zpay.out | refine zpag ?_ zpaz.out | refine zpag ?_ zpbb.out | refine zpag ?_ zpbf.out) | exact HB.out)))
              (case aF => exact (fun k_ hk => ⟨(Nat.le_trans (below_size (by repeat (first | (with_reducible first | exact HB.out | apply zpaj | apply zpah | apply zpai | refine zpag ?_ zpay.out | refine zpag ?_ zpaz.out | refine zpag ?_ zpbb.out | refine zpag ?_ zpbf.out) | exact HB.out))) hk), Kd.freshB (g := zpaw) (o := .cells #[.int .i64 ((rd_T90 zpaq zpax).f0), .int .i64 ((rd_T90 zpaq zpax).f1), .int .i64 ((rd_T90 zpaq zpax).f2)] 90 (0, 0)) (zbk zpba) k_ hk⟩))
              (case aO => exact (zrk HO342))
              (case aS => exact (below_size (by repeat (first | (with_reducible first | exact HB.out | apply zpaj | apply zpah | apply zpai | refine zpag ?_ zpay.out | refine zpag ?_ zpaz.out | refine zpag ?_ zpbb.out | refine zpag ?_ zpbf.out) | exact HB.out))))
              (case aL => have := LMc34.out; omega)
              intro v349 w53 ho hb hg hat
              rw [← Ny348.out] at ho
              have n0_ := zpao (Kd.R_over' (zrk HO_7) (Kd.R_typed (zrk HO342)) (by decide) hg)
              have n1_ := zpao (Kd.V_afterv (ok := (fun k_ => ((P0_0_ k_ ∨ P0_1_ k_ ∨ P0_4_ k_) ∨ w.heap.size ≤ k_) ∧ some k_ ≠ (v328 : Value).ownBlock ∧ k_ ≠ zpar ∧ k_ ≠ zpav ∧ k_ ≠ zpat ∧ k_ ≠ zpaw)) (zvk HO_315000) hg hat)
              have n2_ := zpao (Kd.V_afterv (ok := (fun k_ => ((P0_0_ k_ ∨ P0_1_ k_ ∨ P0_4_ k_) ∨ w.heap.size ≤ k_) ∧ some k_ ≠ (v328 : Value).ownBlock ∧ k_ ≠ zpar ∧ k_ ≠ zpav ∧ k_ ≠ zpat ∧ k_ ≠ zpaw)) (zvk HO_315001) hg hat)
              have n3_ := zpao (Kd.V_afterv (ok := (fun k_ => ((P0_0_ k_ ∨ P0_1_ k_ ∨ P0_4_ k_) ∨ w.heap.size ≤ k_) ∧ some k_ ≠ (v328 : Value).ownBlock ∧ k_ ≠ zpar ∧ k_ ≠ zpav ∧ k_ ≠ zpat ∧ k_ ≠ zpaw)) (zvk HO_315004) hg hat)
              have n4_ := zpao (blk_grown (g := zpar) (o := .cells #[.slice A0_0 l0_0.length c0_0, u315001, .int .i64 a0_2, .bool a0_3, .slice (some ad330) zpaq.length co39, .int .i64 a0_5] 57 (0, 0)) (zbk zpap) hg (Kd.R_ne HO342.out zpap.out (by decide)))
              have n5_ := zpao (blk_grown (g := zpav) (o := .cells #[.int .i64 a1_0, .string a1_1, .string a1_2, .string a1_3, .int .i64 a1_4] 86 (0, 0)) (zbk zpas) hg (Kd.R_ne HO342.out zpas.out (by decide)))
              have n6_ := zpao (blk_grown (g := zpat) (o := .cells #[.slice none 0 0, .slice none 0 0, .int .i64 zpbe, .bool zpbd, .slice none 0 0, .int .i64 zpbc] 57 (0, 0)) (zbk zpau) hg (Kd.R_ne HO342.out zpau.out (by decide)))
              have n7_ := zpao (blk_grown (g := zpaw) (o := .cells #[.int .i64 ((rd_T90 zpaq zpax).f0), .int .i64 ((rd_T90 zpaq zpax).f1), .int .i64 ((rd_T90 zpaq zpax).f2)] 90 (0, 0)) (zbk zpba) hg (Kd.R_away HO342.out (fun _ hk => hk.2)))
              have n8_ := zpao (Kd.V_afterv (ok := (fun k_ => ((P0_0_ k_ ∨ P0_1_ k_ ∨ P0_4_ k_) ∨ w.heap.size ≤ k_) ∧ some k_ ≠ (v328 : Value).ownBlock ∧ k_ ≠ zpar ∧ k_ ≠ zpav ∧ k_ ≠ zpat ∧ k_ ≠ zpaw)) (zvk HO339) hg hat)
              have n9_ := zpao (Kd.V_afterv (ok := (fun k_ => ((P0_0_ k_ ∨ P0_1_ k_ ∨ P0_4_ k_) ∨ w.heap.size ≤ k_) ∧ some k_ ≠ (v328 : Value).ownBlock ∧ k_ ≠ zpar ∧ k_ ≠ zpav ∧ k_ ≠ zpat ∧ k_ ≠ zpaw)) (zvk HO347) hg hat)
              have n10_ := zpao (hb)
              have n11_ := zpao (ho)
              clear HO_7
              clear HO_315000
              clear HO_315001
              clear HO_315004
              clear zpap
              clear zpas
              clear zpau
              clear zpba
              clear HO339
              clear HO347
              clear HB
              clear HO342
              have HO_7 := n0_
              have HO_315000 := n1_
              have HO_315001 := n2_
              have HO_315004 := n3_
              have zpap := n4_
              have zpas := n5_
              have zpau := n6_
              have zpba := n7_
              have HO339 := n8_
              have HO347 := n9_
              have HB := n10_
              have HO350 := n11_
              clear n0_ n1_ n2_ n3_ n4_ n5_ n6_ n7_ n8_ n9_ n10_ n11_
              clear ho hb hg hat
              obtain ⟨Ao54, co54, eo54⟩ := Kd.R_slice HO350.out
              (first | subst eo54 | (injection eo54 with f1_ f2_ f3_; have f4_ := f1_.symm; have f5_ := f3_.symm; clear f1_ f2_ f3_; subst f4_; subst f5_))
              refine hK.out _ _ ⟨(zpak zpap.out 0).trans rfl, (zpak zpap.out 1).trans rfl, (zpak zpap.out 2).trans rfl, (zpak zpap.out 3).trans rfl, (zpak zpap.out 4).trans rfl, (zpak zpap.out 5).trans rfl⟩ (fun hHeld => ?_)
              clear hK K
              refine norm_ (a' := ?_) ?_ ?_
              rotate_left
              ·show Act.put _ (some 52) _ = _
               simp only [Act.put, zpaa, zpab, zpac, i64_w, i32_w]
               rfl
              refine pure_ (i := 12) (N := some 53) (v := ?_) (a' := ?_) zpsq13 rfl rfl (any_of HT_.out (by kernel_rfl)) (fun _ _ _ h => h) (Or.inl ⟨by rfl, ?_⟩) ?_ ?_
              rotate_left
              ·intro w'
               go_simp
               with_reducible rfl
              rotate_left
              ·simp only [Act.put, zpaa, zpab, zpac, i64_w, i32_w]
               rfl
              refine last_ (i := 13) (N := none) zpsq14 rfl rfl (one_of HT_.out (by kernel_rfl)) (by decide) (fun K hK => ?_)
              have hs55 : w53.cell? ⟨zpar, 4, none⟩ = some (.slice (some ad330) zpaq.length co39) := (zpak zpap.out 4).trans rfl
              have hfs55 := zpal zpap.out 4
              have hns55_1 := zpbi.out
              have hns55_2 := zpbg.out
              have hns55_3 := zpbp.out
              have hms55_1 := zpbm.out
              have hms55_2 := zpbn.out
              have hms55_3 := zpbh.out
              refine skip_ (w1 := ?_) (by rfl) rfl ?_ ?_
              rotate_left
              ·go_simp
               rfl
              refine hK.out _ _ ?_
              clear hK K
              refine done_ (done_of HT_.out (by kernel_rfl)) ?_
              have n0_ : Aside0 (Kd.R k86 86 (w53.setCell ⟨zpar, 4, none⟩ (.slice Ao54 y348.length co54)) w.heap.size (fun k_ => (w.heap.size ≤ k_) ∧ k_ ≠ zpav) v328 y327) := ⟨by (with_reducible repeat (first | apply Kd.R_alloc | apply Kd.R_drewN | apply Kd.R_drew)); exact Kd.R_mono (Kd.R_far (p := ⟨zpar, 4, none⟩) (Kd.R_types HO_7.out zpap.out (by decide)) (fun _ hk => hk.2) (.slice Ao54 y348.length co54)) (fun _ hk => ⟨hk.1.1, hk.1.2⟩)⟩
              have n1_ : Aside0 (Kd.V k48 48 (w53.setCell ⟨zpar, 4, none⟩ (.slice Ao54 y348.length co54)) w.heap.size (fun k_ => ((P0_0_ k_ ∨ P0_1_ k_ ∨ P0_4_ k_) ∨ w.heap.size ≤ k_) ∧ some k_ ≠ (v328 : Value).ownBlock ∧ some k_ ≠ (.slice Ao54 y348.length co54 : Value).ownBlock ∧ k_ ≠ zpar ∧ k_ ≠ zpav ∧ k_ ≠ zpat ∧ k_ ≠ zpaw) (.slice A0_0 l0_0.length c0_0) l0_0) := ⟨by (with_reducible repeat (first | apply Kd.V_alloc | apply Kd.V_drewN | apply Kd.V_drew)); exact Kd.V_mono (Kd.V_far (p := ⟨zpar, 4, none⟩) (Kd.V_mono HO_315000.out (fun k_ hk => (⟨hk, hk.1.2.2.1⟩ : _ ∧ k_ ≠ zpar))) (fun _ hk => hk.2) (.slice Ao54 y348.length co54)) (fun _ hk => ⟨hk.1.1.1, ⟨hk.1.1.2.1, ⟨hk.1.2, ⟨hk.1.1.2.2.1, ⟨hk.1.1.2.2.2.1, ⟨hk.1.1.2.2.2.2.1, hk.1.1.2.2.2.2.2⟩⟩⟩⟩⟩⟩)⟩
              have n2_ : Aside0 (Kd.V k86 86 (w53.setCell ⟨zpar, 4, none⟩ (.slice Ao54 y348.length co54)) w.heap.size (fun k_ => ((P0_0_ k_ ∨ P0_1_ k_ ∨ P0_4_ k_) ∨ w.heap.size ≤ k_) ∧ some k_ ≠ (v328 : Value).ownBlock ∧ some k_ ≠ (.slice Ao54 y348.length co54 : Value).ownBlock ∧ k_ ≠ zpar ∧ k_ ≠ zpav ∧ k_ ≠ zpat ∧ k_ ≠ zpaw) u315001 zpbo) := ⟨by (with_reducible repeat (first | apply Kd.V_alloc | apply Kd.V_drewN | apply Kd.V_drew)); exact Kd.V_mono (Kd.V_far (p := ⟨zpar, 4, none⟩) (Kd.V_mono HO_315001.out (fun k_ hk => (⟨hk, hk.1.2.2.1⟩ : _ ∧ k_ ≠ zpar))) (fun _ hk => hk.2) (.slice Ao54 y348.length co54)) (fun _ hk => ⟨hk.1.1.1, ⟨hk.1.1.2.1, ⟨hk.1.2, ⟨hk.1.1.2.2.1, ⟨hk.1.1.2.2.2.1, ⟨hk.1.1.2.2.2.2.1, hk.1.1.2.2.2.2.2⟩⟩⟩⟩⟩⟩)⟩
              have n3_ : Aside0 (Kd.V k90 90 (w53.setCell ⟨zpar, 4, none⟩ (.slice Ao54 y348.length co54)) w.heap.size (fun k_ => ((P0_0_ k_ ∨ P0_1_ k_ ∨ P0_4_ k_) ∨ w.heap.size ≤ k_) ∧ some k_ ≠ (v328 : Value).ownBlock ∧ some k_ ≠ (.slice Ao54 y348.length co54 : Value).ownBlock ∧ k_ ≠ zpar ∧ k_ ≠ zpav ∧ k_ ≠ zpat ∧ k_ ≠ zpaw) (.slice (some ad330) zpaq.length co39) zpaq) := ⟨by (with_reducible repeat (first | apply Kd.V_alloc | apply Kd.V_drewN | apply Kd.V_drew)); exact Kd.V_mono (Kd.V_far (p := ⟨zpar, 4, none⟩) (Kd.V_mono HO_315004.out (fun k_ hk => (⟨hk, hk.1.2.2.1⟩ : _ ∧ k_ ≠ zpar))) (fun _ hk => hk.2) (.slice Ao54 y348.length co54)) (fun _ hk => ⟨hk.1.1.1, ⟨hk.1.1.2.1, ⟨hk.1.2, ⟨hk.1.1.2.2.1, ⟨hk.1.1.2.2.2.1, ⟨hk.1.1.2.2.2.2.1, hk.1.1.2.2.2.2.2⟩⟩⟩⟩⟩⟩)⟩
              have n4_ : Aside0 (Kd.V k90 90 (w53.setCell ⟨zpar, 4, none⟩ (.slice Ao54 y348.length co54)) w.heap.size (fun k_ => ((P0_0_ k_ ∨ P0_1_ k_ ∨ P0_4_ k_) ∨ w.heap.size ≤ k_) ∧ some k_ ≠ (v328 : Value).ownBlock ∧ some k_ ≠ (.slice Ao54 y348.length co54 : Value).ownBlock ∧ k_ ≠ zpar ∧ k_ ≠ zpav ∧ k_ ≠ zpat ∧ k_ ≠ zpaw) (.slice (some ad330) y335.length co39) y335) := ⟨by (with_reducible repeat (first | apply Kd.V_alloc | apply Kd.V_drewN | apply Kd.V_drew)); exact Kd.V_mono (Kd.V_far (p := ⟨zpar, 4, none⟩) (Kd.V_mono HO339.out (fun k_ hk => (⟨hk, hk.1.2.2.1⟩ : _ ∧ k_ ≠ zpar))) (fun _ hk => hk.2) (.slice Ao54 y348.length co54)) (fun _ hk => ⟨hk.1.1.1, ⟨hk.1.1.2.1, ⟨hk.1.2, ⟨hk.1.1.2.2.1, ⟨hk.1.1.2.2.2.1, ⟨hk.1.1.2.2.2.2.1, hk.1.1.2.2.2.2.2⟩⟩⟩⟩⟩⟩)⟩
              have n5_ : Aside0 (Kd.V k90 90 (w53.setCell ⟨zpar, 4, none⟩ (.slice Ao54 y348.length co54)) w.heap.size (fun k_ => ((P0_0_ k_ ∨ P0_1_ k_ ∨ P0_4_ k_) ∨ w.heap.size ≤ k_) ∧ some k_ ≠ (v328 : Value).ownBlock ∧ some k_ ≠ (.slice Ao54 y348.length co54 : Value).ownBlock ∧ k_ ≠ zpar ∧ k_ ≠ zpav ∧ k_ ≠ zpat ∧ k_ ≠ zpaw) (.slice A49 y343.length c49) y343) := ⟨by (with_reducible repeat (first | apply Kd.V_alloc | apply Kd.V_drewN | apply Kd.V_drew)); exact Kd.V_mono (Kd.V_far (p := ⟨zpar, 4, none⟩) (Kd.V_mono HO347.out (fun k_ hk => (⟨hk, hk.1.2.2.1⟩ : _ ∧ k_ ≠ zpar))) (fun _ hk => hk.2) (.slice Ao54 y348.length co54)) (fun _ hk => ⟨hk.1.1.1, ⟨hk.1.1.2.1, ⟨hk.1.2, ⟨hk.1.1.2.2.1, ⟨hk.1.1.2.2.2.1, ⟨hk.1.1.2.2.2.2.1, hk.1.1.2.2.2.2.2⟩⟩⟩⟩⟩⟩)⟩
              have n6_ : Aside0 (Kd.R k90 90 (w53.setCell ⟨zpar, 4, none⟩ (.slice Ao54 y348.length co54)) w.heap.size (fun k_ => (w.heap.size ≤ k_) ∧ k_ ≠ zpaw) (.slice Ao54 y348.length co54) y348) := ⟨by (with_reducible repeat (first | apply Kd.R_alloc | apply Kd.R_drewN | apply Kd.R_drew)); exact Kd.R_mono (Kd.R_far (p := ⟨zpar, 4, none⟩) (Kd.R_types HO350.out zpap.out (by decide)) (fun _ hk => hk.2) (.slice Ao54 y348.length co54)) (fun _ hk => ⟨hk.1.1, hk.1.2⟩)⟩
              have n7_ : Aside0 ((w53.setCell ⟨zpar, 4, none⟩ (.slice Ao54 y348.length co54)).heap[zpar]? = some (.cells #[.slice A0_0 l0_0.length c0_0, u315001, .int .i64 a0_2, .bool a0_3, .slice Ao54 y348.length co54, .int .i64 a0_5] 57 (0, 0))) := ⟨by (with_reducible repeat (first | refine zpad ?_ _ | refine zpaf ?_ | refine zpae ?_ _)); refine blk_put (cs := #[.slice A0_0 l0_0.length c0_0, u315001, .int .i64 a0_2, .bool a0_3, .slice (some ad330) zpaq.length co39, .int .i64 a0_5]) ?_ 4 _ rfl; exact zbk zpap⟩
              have n8_ : Aside0 ((w53.setCell ⟨zpar, 4, none⟩ (.slice Ao54 y348.length co54)).heap[zpav]? = some (.cells #[.int .i64 a1_0, .string a1_1, .string a1_2, .string a1_3, .int .i64 a1_4] 86 (0, 0))) := ⟨by (with_reducible repeat (first | refine zpad ?_ _ | refine zpaf ?_ | refine zpae ?_ _)); refine blk_far ?_ zpbi.out _; exact zbk zpas⟩
              have n9_ : Aside0 ((w53.setCell ⟨zpar, 4, none⟩ (.slice Ao54 y348.length co54)).heap[zpat]? = some (.cells #[.slice none 0 0, .slice none 0 0, .int .i64 zpbe, .bool zpbd, .slice none 0 0, .int .i64 zpbc] 57 (0, 0))) := ⟨by (with_reducible repeat (first | refine zpad ?_ _ | refine zpaf ?_ | refine zpae ?_ _)); refine blk_far ?_ zpbg.out _; exact zbk zpau⟩
              have n10_ : Aside0 ((w53.setCell ⟨zpar, 4, none⟩ (.slice Ao54 y348.length co54)).heap[zpaw]? = some (.cells #[.int .i64 ((rd_T90 zpaq zpax).f0), .int .i64 ((rd_T90 zpaq zpax).f1), .int .i64 ((rd_T90 zpaq zpax).f2)] 90 (0, 0))) := ⟨by (with_reducible repeat (first | refine zpad ?_ _ | refine zpaf ?_ | refine zpae ?_ _)); refine blk_far ?_ zpbp.out _; exact zbk zpba⟩
              have n11_ : Aside0 (Below w.heap.size w (w53.setCell ⟨zpar, 4, none⟩ (.slice Ao54 y348.length co54))) := ⟨by repeat (first | (with_reducible first | exact HB.out | apply zpaj | apply zpah | apply zpai | refine zpag ?_ zpay.out | refine zpag ?_ zpaz.out | refine zpag ?_ zpbb.out | refine zpag ?_ zpbf.out) | exact HB.out)⟩
              (try clear HO_7)
              (try clear HO_315000)
              (try clear HO_315001)
              (try clear HO_315004)
              (try clear HO339)
              (try clear HO347)
              (try clear HO350)
              (try clear zpap)
              (try clear zpas)
              (try clear zpau)
              (try clear zpba)
              (try clear HB)
              generalize (w53.setCell ⟨zpar, 4, none⟩ (.slice Ao54 y348.length co54)) = w56 at n0_ n1_ n2_ n3_ n4_ n5_ n6_ n7_ n8_ n9_ n10_ n11_ ⊢
              have HO_7 := n0_
              have HO_315000 := n1_
              have HO_315001 := n2_
              have HO_315004 := n3_
              have HO339 := n4_
              have HO347 := n5_
              have HO350 := n6_
              have zpap := n7_
              have zpas := n8_
              have zpau := n9_
              have zpba := n10_
              have HB := n11_
              clear n0_ n1_ n2_ n3_ n4_ n5_ n6_ n7_ n8_ n9_ n10_ n11_
              obtain ⟨Ao57, co57, eo57⟩ := Kd.R_slice HO_7.out
              subst eo57
              have zped : w56.cell? ⟨zpar, 0, none⟩ = some (.slice A0_0 l0_0.length c0_0) := (zpak zpap.out 0).trans rfl
              have zpee : w56.cell? ⟨zpar, 1, none⟩ = some (u315001) := (zpak zpap.out 1).trans rfl
              have zpef : w56.cell? ⟨zpar, 2, none⟩ = some (.int .i64 a0_2) := (zpak zpap.out 2).trans rfl
              have zpeg : w56.cell? ⟨zpar, 3, none⟩ = some (.bool a0_3) := (zpak zpap.out 3).trans rfl
              have zpeh : w56.cell? ⟨zpar, 4, none⟩ = some (.slice Ao54 y348.length co54) := (zpak zpap.out 4).trans rfl
              have zpei : w56.cell? ⟨zpar, 5, none⟩ = some (.int .i64 a0_5) := (zpak zpap.out 5).trans rfl
              have zpej := zpal zpap.out 0
              have zpek := zpal zpap.out 1
              have zpel := zpal zpap.out 2
              have zpem := zpal zpap.out 3
              have zpen := zpal zpap.out 4
              have zpeo := zpal zpap.out 5
              try go_wp2_with (first | ((with_reducible refine gate_store (t := 54) (p := 55) rfl ?_); refine store_event (t := 54) (p := 55) (v := ?vo_w59) (w1 := (w56.setCell ⟨zpar, 1, none⟩ (.slice Ao57 y327.length co57))) ?hg ?ho ?hn ?hr ?_; (case ho => rfl); (case hg => rfl); (case hn => rfl); (case hr => first | (go_simp; done) | (go_simp; rfl)); intro w59 hw; have n0_ : Aside0 (Kd.R k86 86 w59 w.heap.size (fun k_ => (w.heap.size ≤ k_) ∧ k_ ≠ zpav) (.slice Ao57 y327.length co57) y327) := ⟨(by rw [hw]; exact (by (with_reducible repeat (first | apply Kd.R_alloc | apply Kd.R_drewN | apply Kd.R_drew)); exact Kd.R_mono (Kd.R_far (p := ⟨zpar, 1, none⟩) (Kd.R_types HO_7.out zpap.out (by decide)) (fun _ hk => hk.2) (.slice Ao57 y327.length co57)) (fun _ hk => ⟨hk.1.1, hk.1.2⟩)))⟩; have n1_ : Aside0 (Kd.V k48 48 w59 w.heap.size (fun k_ => ((P0_0_ k_ ∨ P0_1_ k_ ∨ P0_4_ k_) ∨ w.heap.size ≤ k_) ∧ some k_ ≠ (.slice Ao57 y327.length co57 : Value).ownBlock ∧ some k_ ≠ (.slice Ao54 y348.length co54 : Value).ownBlock ∧ k_ ≠ zpar ∧ k_ ≠ zpav ∧ k_ ≠ zpat ∧ k_ ≠ zpaw) (.slice A0_0 l0_0.length c0_0) l0_0) := ⟨(by rw [hw]; exact (by (with_reducible repeat (first | apply Kd.V_alloc | apply Kd.V_drewN | apply Kd.V_drew)); exact Kd.V_mono (Kd.V_far (p := ⟨zpar, 1, none⟩) (Kd.V_mono HO_315000.out (fun k_ hk => (⟨hk, hk.2.2.2.1⟩ : _ ∧ k_ ≠ zpar))) (fun _ hk => hk.2) (.slice Ao57 y327.length co57)) (fun _ hk => ⟨hk.1.1, ⟨hk.1.2.1, ⟨hk.1.2.2.1, ⟨hk.1.2.2.2.1, ⟨hk.1.2.2.2.2.1, ⟨hk.1.2.2.2.2.2.1, hk.1.2.2.2.2.2.2⟩⟩⟩⟩⟩⟩)))⟩; have n2_ : Aside0 (Kd.V k86 86 w59 w.heap.size (fun k_ => ((P0_0_ k_ ∨ P0_1_ k_ ∨ P0_4_ k_) ∨ w.heap.size ≤ k_) ∧ some k_ ≠ (.slice Ao57 y327.length co57 : Value).ownBlock ∧ some k_ ≠ (.slice Ao54 y348.length co54 : Value).ownBlock ∧ k_ ≠ zpar ∧ k_ ≠ zpav ∧ k_ ≠ zpat ∧ k_ ≠ zpaw) u315001 zpbo) := ⟨(by rw [hw]; exact (by (with_reducible repeat (first | apply Kd.V_alloc | apply Kd.V_drewN | apply Kd.V_drew)); exact Kd.V_mono (Kd.V_far (p := ⟨zpar, 1, none⟩) (Kd.V_mono HO_315001.out (fun k_ hk => (⟨hk, hk.2.2.2.1⟩ : _ ∧ k_ ≠ zpar))) (fun _ hk => hk.2) (.slice Ao57 y327.length co57)) (fun _ hk => ⟨hk.1.1, ⟨hk.1.2.1, ⟨hk.1.2.2.1, ⟨hk.1.2.2.2.1, ⟨hk.1.2.2.2.2.1, ⟨hk.1.2.2.2.2.2.1, hk.1.2.2.2.2.2.2⟩⟩⟩⟩⟩⟩)))⟩; have n3_ : Aside0 (Kd.V k90 90 w59 w.heap.size (fun k_ => ((P0_0_ k_ ∨ P0_1_ k_ ∨ P0_4_ k_) ∨ w.heap.size ≤ k_) ∧ some k_ ≠ (.slice Ao57 y327.length co57 : Value).ownBlock ∧ some k_ ≠ (.slice Ao54 y348.length co54 : Value).ownBlock ∧ k_ ≠ zpar ∧ k_ ≠ zpav ∧ k_ ≠ zpat ∧ k_ ≠ zpaw) (.slice (some ad330) zpaq.length co39) zpaq) := ⟨(by rw [hw]; exact (by (with_reducible repeat (first | apply Kd.V_alloc | apply Kd.V_drewN | apply Kd.V_drew)); exact Kd.V_mono (Kd.V_far (p := ⟨zpar, 1, none⟩) (Kd.V_mono HO_315004.out (fun k_ hk => (⟨hk, hk.2.2.2.1⟩ : _ ∧ k_ ≠ zpar))) (fun _ hk => hk.2) (.slice Ao57 y327.length co57)) (fun _ hk => ⟨hk.1.1, ⟨hk.1.2.1, ⟨hk.1.2.2.1, ⟨hk.1.2.2.2.1, ⟨hk.1.2.2.2.2.1, ⟨hk.1.2.2.2.2.2.1, hk.1.2.2.2.2.2.2⟩⟩⟩⟩⟩⟩)))⟩; have n4_ : Aside0 (Kd.V k90 90 w59 w.heap.size (fun k_ => ((P0_0_ k_ ∨ P0_1_ k_ ∨ P0_4_ k_) ∨ w.heap.size ≤ k_) ∧ some k_ ≠ (.slice Ao57 y327.length co57 : Value).ownBlock ∧ some k_ ≠ (.slice Ao54 y348.length co54 : Value).ownBlock ∧ k_ ≠ zpar ∧ k_ ≠ zpav ∧ k_ ≠ zpat ∧ k_ ≠ zpaw) (.slice (some ad330) y335.length co39) y335) := ⟨(by rw [hw]; exact (by (with_reducible repeat (first | apply Kd.V_alloc | apply Kd.V_drewN | apply Kd.V_drew)); exact Kd.V_mono (Kd.V_far (p := ⟨zpar, 1, none⟩) (Kd.V_mono HO339.out (fun k_ hk => (⟨hk, hk.2.2.2.1⟩ : _ ∧ k_ ≠ zpar))) (fun _ hk => hk.2) (.slice Ao57 y327.length co57)) (fun _ hk => ⟨hk.1.1, ⟨hk.1.2.1, ⟨hk.1.2.2.1, ⟨hk.1.2.2.2.1, ⟨hk.1.2.2.2.2.1, ⟨hk.1.2.2.2.2.2.1, hk.1.2.2.2.2.2.2⟩⟩⟩⟩⟩⟩)))⟩; have n5_ : Aside0 (Kd.V k90 90 w59 w.heap.size (fun k_ => ((P0_0_ k_ ∨ P0_1_ k_ ∨ P0_4_ k_) ∨ w.heap.size ≤ k_) ∧ some k_ ≠ (.slice Ao57 y327.length co57 : Value).ownBlock ∧ some k_ ≠ (.slice Ao54 y348.length co54 : Value).ownBlock ∧ k_ ≠ zpar ∧ k_ ≠ zpav ∧ k_ ≠ zpat ∧ k_ ≠ zpaw) (.slice A49 y343.length c49) y343) := ⟨(by rw [hw]; exact (by (with_reducible repeat (first | apply Kd.V_alloc | apply Kd.V_drewN | apply Kd.V_drew)); exact Kd.V_mono (Kd.V_far (p := ⟨zpar, 1, none⟩) (Kd.V_mono HO347.out (fun k_ hk => (⟨hk, hk.2.2.2.1⟩ : _ ∧ k_ ≠ zpar))) (fun _ hk => hk.2) (.slice Ao57 y327.length co57)) (fun _ hk => ⟨hk.1.1, ⟨hk.1.2.1, ⟨hk.1.2.2.1, ⟨hk.1.2.2.2.1, ⟨hk.1.2.2.2.2.1, ⟨hk.1.2.2.2.2.2.1, hk.1.2.2.2.2.2.2⟩⟩⟩⟩⟩⟩)))⟩; have n6_ : Aside0 (Kd.R k90 90 w59 w.heap.size (fun k_ => (w.heap.size ≤ k_) ∧ k_ ≠ zpaw) (.slice Ao54 y348.length co54) y348) := ⟨(by rw [hw]; exact (by (with_reducible repeat (first | apply Kd.R_alloc | apply Kd.R_drewN | apply Kd.R_drew)); exact Kd.R_mono (Kd.R_far (p := ⟨zpar, 1, none⟩) (Kd.R_types HO350.out zpap.out (by decide)) (fun _ hk => hk.2) (.slice Ao57 y327.length co57)) (fun _ hk => ⟨hk.1.1, hk.1.2⟩)))⟩; have n7_ : Aside0 (w59.heap[zpar]? = some (.cells #[.slice A0_0 l0_0.length c0_0, .slice Ao57 y327.length co57, .int .i64 a0_2, .bool a0_3, .slice Ao54 y348.length co54, .int .i64 a0_5] 57 (0, 0))) := ⟨(by rw [hw]; exact (by (with_reducible repeat (first | refine zpad ?_ _ | refine zpaf ?_ | refine zpae ?_ _)); refine blk_put (cs := #[.slice A0_0 l0_0.length c0_0, u315001, .int .i64 a0_2, .bool a0_3, .slice Ao54 y348.length co54, .int .i64 a0_5]) ?_ 1 _ rfl; exact zbk zpap))⟩; have n8_ : Aside0 (w59.heap[zpav]? = some (.cells #[.int .i64 a1_0, .string a1_1, .string a1_2, .string a1_3, .int .i64 a1_4] 86 (0, 0))) := ⟨(by rw [hw]; exact (by (with_reducible repeat (first | refine zpad ?_ _ | refine zpaf ?_ | refine zpae ?_ _)); refine blk_far ?_ zpbi.out _; exact zbk zpas))⟩; have n9_ : Aside0 (w59.heap[zpat]? = some (.cells #[.slice none 0 0, .slice none 0 0, .int .i64 zpbe, .bool zpbd, .slice none 0 0, .int .i64 zpbc] 57 (0, 0))) := ⟨(by rw [hw]; exact (by (with_reducible repeat (first | refine zpad ?_ _ | refine zpaf ?_ | refine zpae ?_ _)); refine blk_far ?_ zpbg.out _; exact zbk zpau))⟩; have n10_ : Aside0 (w59.heap[zpaw]? = some (.cells #[.int .i64 ((rd_T90 zpaq zpax).f0), .int .i64 ((rd_T90 zpaq zpax).f1), .int .i64 ((rd_T90 zpaq zpax).f2)] 90 (0, 0))) := ⟨(by rw [hw]; exact (by (with_reducible repeat (first | refine zpad ?_ _ | refine zpaf ?_ | refine zpae ?_ _)); refine blk_far ?_ zpbp.out _; exact zbk zpba))⟩; have n11_ : Aside0 (Below w.heap.size w w59) := ⟨(by rw [hw]; exact (by repeat (first | (with_reducible first | exact HB.out | apply zpaj | apply zpah | apply zpai | refine zpag ?_ zpay.out | refine zpag ?_ zpaz.out | refine zpag ?_ zpbb.out | refine zpag ?_ zpbf.out) | exact HB.out)))⟩; clear hw; clear HO_7; clear HO_315000; clear HO_315001; clear HO_315004; clear HO339; clear HO347; clear HO350; clear zpap; clear zpas; clear zpau; clear zpba; clear HB; have HO_7 := n0_; have HO_315000 := n1_; have HO_315001 := n2_; have HO_315004 := n3_; have HO339 := n4_; have HO347 := n5_; have HO350 := n6_; have zpap := n7_; have zpas := n8_; have zpau := n9_; have zpba := n10_; have HB := n11_; clear n0_ n1_ n2_ n3_ n4_ n5_ n6_ n7_ n8_ n9_ n10_ n11_; have zpep : w59.cell? ⟨zpar, 0, none⟩ = some (.slice A0_0 l0_0.length c0_0) := (zpak zpap.out 0).trans rfl; have zpeq : w59.cell? ⟨zpar, 1, none⟩ = some (.slice Ao57 y327.length co57) := (zpak zpap.out 1).trans rfl; have zper : w59.cell? ⟨zpar, 2, none⟩ = some (.int .i64 a0_2) := (zpak zpap.out 2).trans rfl; have zpes : w59.cell? ⟨zpar, 3, none⟩ = some (.bool a0_3) := (zpak zpap.out 3).trans rfl; have zpet : w59.cell? ⟨zpar, 4, none⟩ = some (.slice Ao54 y348.length co54) := (zpak zpap.out 4).trans rfl; have zpeu : w59.cell? ⟨zpar, 5, none⟩ = some (.int .i64 a0_5) := (zpak zpap.out 5).trans rfl; have zpev := zpal zpap.out 0; have zpew := zpal zpap.out 1; have zpex := zpal zpap.out 2; have zpey := zpal zpap.out 3; have zpez := zpal zpap.out 4; have zpfa := zpal zpap.out 5; have zpfb : w59.cell? ⟨zpaw, 0, none⟩ = some (.int .i64 ((rd_T90 zpaq zpax).f0)) := (zpak zpba.out 0).trans rfl; have zpfc : w59.cell? ⟨zpaw, 1, none⟩ = some (.int .i64 ((rd_T90 zpaq zpax).f1)) := (zpak zpba.out 1).trans rfl; have zpfd : w59.cell? ⟨zpaw, 2, none⟩ = some (.int .i64 ((rd_T90 zpaq zpax).f2)) := (zpak zpba.out 2).trans rfl; have zpfe := zpal zpba.out 0; have zpff := zpal zpba.out 1; have zpfg := zpal zpba.out 2) | ((with_reducible refine gate_callee (f := 47) rfl ?_); refine goesL_ (some 61) rfl rfl Try.func47 (by kernel_rfl) rfl #[.agg #[.slice A0_0 l0_0.length c0_0, .slice Ao57 y327.length co57, .int .i64 a0_2, .bool a0_3, .slice Ao54 y348.length co54, .int .i64 a0_5], .int .i64 ((rd_T90 zpaq zpax).f1), .int .i64 ((rd_T90 zpaq zpax).f2)] rfl (by (try simp only [List.map_toArray, List.map_cons, List.map_nil]); first | done | rfl) ?_; (with_reducible refine (stowageref04_Disk_Fail.calls k1 (fun k_ => (((P0_0_ k_ ∨ P0_1_ k_ ∨ P0_4_ k_) ∨ w.heap.size ≤ k_) ∧ (some k_ ≠ (.slice Ao57 y327.length co57 : Value).ownBlock ∧ (some k_ ≠ (.slice Ao54 y348.length co54 : Value).ownBlock ∧ (k_ ≠ zpar ∧ (k_ ≠ zpav ∧ (k_ ≠ zpat ∧ k_ ≠ zpaw))))))) _ _ l0_0 (fun k_ => some k_ = (.slice Ao57 y327.length co57 : Value).ownBlock) _ _ y327 a0_2 a0_3 (fun k_ => some k_ = (.slice Ao54 y348.length co54 : Value).ownBlock) _ _ y348 a0_5 ((rd_T90 zpaq zpax).f1) ((rd_T90 zpaq zpax).f2) t351 t354 t357 t358 t359 t362 _ ?side1 ?side2 ?side3 A35.out).mono ?_); (case side1 => exact HO_315000.out); (case side2 => exact Kd.R_V (Kd.R_tight rfl (Kd.R_types (Kd.R_types (Kd.R_types (Kd.R_apart' (HO_7.out) (Kd.R_typed HO350.out) (by decide)) zpap.out (by decide)) zpau.out (by decide)) zpba.out (by decide)))); (case side3 => exact Kd.R_V (Kd.R_tight rfl (Kd.R_types (Kd.R_types (Kd.R_types (Kd.R_apart' (HO350.out) (Kd.R_typed HO_7.out) (by decide)) zpap.out (by decide)) zpas.out (by decide)) zpau.out (by decide)))); rintro e w62 ⟨v352, v355, v360, rfl, ho0, ho1, ho2, hb⟩; refine ⟨_, rfl, ?_⟩; have n0_ := zpao (Kd.R_below (zrk HO_7) hb); have n1_ := zpao (Kd.V_below (zvk HO_315000) hb); have n2_ := zpao (Kd.V_below (zvk HO_315001) hb); have n3_ := zpao (Kd.V_below (zvk HO_315004) hb); have n4_ := zpao (Kd.V_below (zvk HO339) hb); have n5_ := zpao (Kd.V_below (zvk HO347) hb); have n6_ := zpao (Kd.R_below (zrk HO350) hb); have n7_ := zpao (Kd.V_lower (Kd.V_mono (ok' := fun k_ => ((P0_0_ k_ ∨ P0_1_ k_ ∨ P0_4_ k_) ∨ w.heap.size ≤ k_) ∧ k_ ≠ zpar ∧ k_ ≠ zpav ∧ k_ ≠ zpat ∧ k_ ≠ zpaw) ho0 (fun k_ hk_ => ⟨Or.elim hk_ (fun hs_ => Or.elim hs_ (fun hs_ => hs_.1) (fun hs_ => Or.elim hs_ (fun hs_ => (.inr (((Kd.R_types (Kd.R_types (Kd.R_types (Kd.R_apart' (HO_7.out) (Kd.R_typed HO350.out) (by decide)) zpap.out (by decide)) zpau.out (by decide)) zpba.out (by decide)).1 k_ hs_.symm).1.1.1.1.1))) (fun hs_ => (.inr (((Kd.R_types (Kd.R_types (Kd.R_types (Kd.R_apart' (HO350.out) (Kd.R_typed HO_7.out) (by decide)) zpap.out (by decide)) zpas.out (by decide)) zpau.out (by decide)).1 k_ hs_.symm).1.1.1.1.1))))) (fun hn_ => (.inr (Nat.le_trans (below_size (by repeat (first | (with_reducible first | exact HB.out | apply zpaj | apply zpah | apply zpai | refine zpag ?_ zpay.out | refine zpag ?_ zpaz.out | refine zpag ?_ zpbb.out | refine zpag ?_ zpbf.out) | exact HB.out))) hn_))), Or.elim hk_ (fun hs_ => Or.elim hs_ (fun hs_ => hs_.2.2.2.1) (fun hs_ => Or.elim hs_ (fun hs_ => ((Kd.R_types (Kd.R_types (Kd.R_types (Kd.R_apart' (HO_7.out) (Kd.R_typed HO350.out) (by decide)) zpap.out (by decide)) zpau.out (by decide)) zpba.out (by decide)).1 k_ hs_.symm).1.1.2) (fun hs_ => ((Kd.R_types (Kd.R_types (Kd.R_types (Kd.R_apart' (HO350.out) (Kd.R_typed HO_7.out) (by decide)) zpap.out (by decide)) zpas.out (by decide)) zpau.out (by decide)).1 k_ hs_.symm).1.1.2))) (fun hn_ => (Kd.freshB (g := zpar) (o := .cells #[.slice A0_0 l0_0.length c0_0, .slice Ao57 y327.length co57, .int .i64 a0_2, .bool a0_3, .slice Ao54 y348.length co54, .int .i64 a0_5] 57 (0, 0)) (zbk zpap) k_ hn_)), Or.elim hk_ (fun hs_ => Or.elim hs_ (fun hs_ => hs_.2.2.2.2.1) (fun hs_ => Or.elim hs_ (fun hs_ => ((Kd.R_types (Kd.R_types (Kd.R_types (Kd.R_apart' (HO_7.out) (Kd.R_typed HO350.out) (by decide)) zpap.out (by decide)) zpau.out (by decide)) zpba.out (by decide)).1 k_ hs_.symm).1.1.1.1.2) (fun hs_ => ((Kd.R_types (Kd.R_types (Kd.R_types (Kd.R_apart' (HO350.out) (Kd.R_typed HO_7.out) (by decide)) zpap.out (by decide)) zpas.out (by decide)) zpau.out (by decide)).1 k_ hs_.symm).1.2))) (fun hn_ => (Kd.freshB (g := zpav) (o := .cells #[.int .i64 a1_0, .string a1_1, .string a1_2, .string a1_3, .int .i64 a1_4] 86 (0, 0)) (zbk zpas) k_ hn_)), Or.elim hk_ (fun hs_ => Or.elim hs_ (fun hs_ => hs_.2.2.2.2.2.1) (fun hs_ => Or.elim hs_ (fun hs_ => ((Kd.R_types (Kd.R_types (Kd.R_types (Kd.R_apart' (HO_7.out) (Kd.R_typed HO350.out) (by decide)) zpap.out (by decide)) zpau.out (by decide)) zpba.out (by decide)).1 k_ hs_.symm).1.2) (fun hs_ => ((Kd.R_types (Kd.R_types (Kd.R_types (Kd.R_apart' (HO350.out) (Kd.R_typed HO_7.out) (by decide)) zpap.out (by decide)) zpas.out (by decide)) zpau.out (by decide)).1 k_ hs_.symm).2))) (fun hn_ => (Kd.freshB (g := zpat) (o := .cells #[.slice none 0 0, .slice none 0 0, .int .i64 zpbe, .bool zpbd, .slice none 0 0, .int .i64 zpbc] 57 (0, 0)) (zbk zpau) k_ hn_)), Or.elim hk_ (fun hs_ => Or.elim hs_ (fun hs_ => hs_.2.2.2.2.2.2) (fun hs_ => Or.elim hs_ (fun hs_ => ((Kd.R_types (Kd.R_types (Kd.R_types (Kd.R_apart' (HO_7.out) (Kd.R_typed HO350.out) (by decide)) zpap.out (by decide)) zpau.out (by decide)) zpba.out (by decide)).1 k_ hs_.symm).2) (fun hs_ => ((Kd.R_types (Kd.R_types (Kd.R_types (Kd.R_apart' (HO350.out) (Kd.R_typed HO_7.out) (by decide)) zpap.out (by decide)) zpas.out (by decide)) zpau.out (by decide)).1 k_ hs_.symm).1.1.1.1.2))) (fun hn_ => (Kd.freshB (g := zpaw) (o := .cells #[.int .i64 ((rd_T90 zpaq zpax).f0), .int .i64 ((rd_T90 zpaq zpax).f1), .int .i64 ((rd_T90 zpaq zpax).f2)] 90 (0, 0)) (zbk zpba) k_ hn_))⟩)) (below_size (by repeat (first | (with_reducible first | exact HB.out | apply zpaj | apply zpah | apply zpai | refine zpag ?_ zpay.out | refine zpag ?_ zpaz.out | refine zpag ?_ zpbb.out | refine zpag ?_ zpbf.out) | exact HB.out)))); have n8_ := zpao (Kd.V_lower (Kd.V_mono (ok' := fun k_ => ((P0_0_ k_ ∨ P0_1_ k_ ∨ P0_4_ k_) ∨ w.heap.size ≤ k_) ∧ k_ ≠ zpar ∧ k_ ≠ zpav ∧ k_ ≠ zpat ∧ k_ ≠ zpaw) ho1 (fun k_ hk_ => ⟨Or.elim hk_ (fun hs_ => Or.elim hs_ (fun hs_ => hs_.1) (fun hs_ => Or.elim hs_ (fun hs_ => (.inr (((Kd.R_types (Kd.R_types (Kd.R_types (Kd.R_apart' (HO_7.out) (Kd.R_typed HO350.out) (by decide)) zpap.out (by decide)) zpau.out (by decide)) zpba.out (by decide)).1 k_ hs_.symm).1.1.1.1.1))) (fun hs_ => (.inr (((Kd.R_types (Kd.R_types (Kd.R_types (Kd.R_apart' (HO350.out) (Kd.R_typed HO_7.out) (by decide)) zpap.out (by decide)) zpas.out (by decide)) zpau.out (by decide)).1 k_ hs_.symm).1.1.1.1.1))))) (fun hn_ => (.inr (Nat.le_trans (below_size (by repeat (first | (with_reducible first | exact HB.out | apply zpaj | apply zpah | apply zpai | refine zpag ?_ zpay.out | refine zpag ?_ zpaz.out | refine zpag ?_ zpbb.out | refine zpag ?_ zpbf.out) | exact HB.out))) hn_))), Or.elim hk_ (fun hs_ => Or.elim hs_ (fun hs_ => hs_.2.2.2.1) (fun hs_ => Or.elim hs_ (fun hs_ => ((Kd.R_types (Kd.R_types (Kd.R_types (Kd.R_apart' (HO_7.out) (Kd.R_typed HO350.out) (by decide)) zpap.out (by decide)) zpau.out (by decide)) zpba.out (by decide)).1 k_ hs_.symm).1.1.2) (fun hs_ => ((Kd.R_types (Kd.R_types (Kd.R_types (Kd.R_apart' (HO350.out) (Kd.R_typed HO_7.out) (by decide)) zpap.out (by decide)) zpas.out (by decide)) zpau.out (by decide)).1 k_ hs_.symm).1.1.2))) (fun hn_ => (Kd.freshB (g := zpar) (o := .cells #[.slice A0_0 l0_0.length c0_0, .slice Ao57 y327.length co57, .int .i64 a0_2, .bool a0_3, .slice Ao54 y348.length co54, .int .i64 a0_5] 57 (0, 0)) (zbk zpap) k_ hn_)), Or.elim hk_ (fun hs_ => Or.elim hs_ (fun hs_ => hs_.2.2.2.2.1) (fun hs_ => Or.elim hs_ (fun hs_ => ((Kd.R_types (Kd.R_types (Kd.R_types (Kd.R_apart' (HO_7.out) (Kd.R_typed HO350.out) (by decide)) zpap.out (by decide)) zpau.out (by decide)) zpba.out (by decide)).1 k_ hs_.symm).1.1.1.1.2) (fun hs_ => ((Kd.R_types (Kd.R_types (Kd.R_types (Kd.R_apart' (HO350.out) (Kd.R_typed HO_7.out) (by decide)) zpap.out (by decide)) zpas.out (by decide)) zpau.out (by decide)).1 k_ hs_.symm).1.2))) (fun hn_ => (Kd.freshB (g := zpav) (o := .cells #[.int .i64 a1_0, .string a1_1, .string a1_2, .string a1_3, .int .i64 a1_4] 86 (0, 0)) (zbk zpas) k_ hn_)), Or.elim hk_ (fun hs_ => Or.elim hs_ (fun hs_ => hs_.2.2.2.2.2.1) (fun hs_ => Or.elim hs_ (fun hs_ => ((Kd.R_types (Kd.R_types (Kd.R_types (Kd.R_apart' (HO_7.out) (Kd.R_typed HO350.out) (by decide)) zpap.out (by decide)) zpau.out (by decide)) zpba.out (by decide)).1 k_ hs_.symm).1.2) (fun hs_ => ((Kd.R_types (Kd.R_types (Kd.R_types (Kd.R_apart' (HO350.out) (Kd.R_typed HO_7.out) (by decide)) zpap.out (by decide)) zpas.out (by decide)) zpau.out (by decide)).1 k_ hs_.symm).2))) (fun hn_ => (Kd.freshB (g := zpat) (o := .cells #[.slice none 0 0, .slice none 0 0, .int .i64 zpbe, .bool zpbd, .slice none 0 0, .int .i64 zpbc] 57 (0, 0)) (zbk zpau) k_ hn_)), Or.elim hk_ (fun hs_ => Or.elim hs_ (fun hs_ => hs_.2.2.2.2.2.2) (fun hs_ => Or.elim hs_ (fun hs_ => ((Kd.R_types (Kd.R_types (Kd.R_types (Kd.R_apart' (HO_7.out) (Kd.R_typed HO350.out) (by decide)) zpap.out (by decide)) zpau.out (by decide)) zpba.out (by decide)).1 k_ hs_.symm).2) (fun hs_ => ((Kd.R_types (Kd.R_types (Kd.R_types (Kd.R_apart' (HO350.out) (Kd.R_typed HO_7.out) (by decide)) zpap.out (by decide)) zpas.out (by decide)) zpau.out (by decide)).1 k_ hs_.symm).1.1.1.1.2))) (fun hn_ => (Kd.freshB (g := zpaw) (o := .cells #[.int .i64 ((rd_T90 zpaq zpax).f0), .int .i64 ((rd_T90 zpaq zpax).f1), .int .i64 ((rd_T90 zpaq zpax).f2)] 90 (0, 0)) (zbk zpba) k_ hn_))⟩)) (below_size (by repeat (first | (with_reducible first | exact HB.out | apply zpaj | apply zpah | apply zpai | refine zpag ?_ zpay.out | refine zpag ?_ zpaz.out | refine zpag ?_ zpbb.out | refine zpag ?_ zpbf.out) | exact HB.out)))); have n9_ := zpao (Kd.V_lower (Kd.V_mono (ok' := fun k_ => ((P0_0_ k_ ∨ P0_1_ k_ ∨ P0_4_ k_) ∨ w.heap.size ≤ k_) ∧ k_ ≠ zpar ∧ k_ ≠ zpav ∧ k_ ≠ zpat ∧ k_ ≠ zpaw) ho2 (fun k_ hk_ => ⟨Or.elim hk_ (fun hs_ => Or.elim hs_ (fun hs_ => hs_.1) (fun hs_ => Or.elim hs_ (fun hs_ => (.inr (((Kd.R_types (Kd.R_types (Kd.R_types (Kd.R_apart' (HO_7.out) (Kd.R_typed HO350.out) (by decide)) zpap.out (by decide)) zpau.out (by decide)) zpba.out (by decide)).1 k_ hs_.symm).1.1.1.1.1))) (fun hs_ => (.inr (((Kd.R_types (Kd.R_types (Kd.R_types (Kd.R_apart' (HO350.out) (Kd.R_typed HO_7.out) (by decide)) zpap.out (by decide)) zpas.out (by decide)) zpau.out (by decide)).1 k_ hs_.symm).1.1.1.1.1))))) (fun hn_ => (.inr (Nat.le_trans (below_size (by repeat (first | (with_reducible first | exact HB.out | apply zpaj | apply zpah | apply zpai | refine zpag ?_ zpay.out | refine zpag ?_ zpaz.out | refine zpag ?_ zpbb.out | refine zpag ?_ zpbf.out) | exact HB.out))) hn_))), Or.elim hk_ (fun hs_ => Or.elim hs_ (fun hs_ => hs_.2.2.2.1) (fun hs_ => Or.elim hs_ (fun hs_ => ((Kd.R_types (Kd.R_types (Kd.R_types (Kd.R_apart' (HO_7.out) (Kd.R_typed HO350.out) (by decide)) zpap.out (by decide)) zpau.out (by decide)) zpba.out (by decide)).1 k_ hs_.symm).1.1.2) (fun hs_ => ((Kd.R_types (Kd.R_types (Kd.R_types (Kd.R_apart' (HO350.out) (Kd.R_typed HO_7.out) (by decide)) zpap.out (by decide)) zpas.out (by decide)) zpau.out (by decide)).1 k_ hs_.symm).1.1.2))) (fun hn_ => (Kd.freshB (g := zpar) (o := .cells #[.slice A0_0 l0_0.length c0_0, .slice Ao57 y327.length co57, .int .i64 a0_2, .bool a0_3, .slice Ao54 y348.length co54, .int .i64 a0_5] 57 (0, 0)) (zbk zpap) k_ hn_)), Or.elim hk_ (fun hs_ => Or.elim hs_ (fun hs_ => hs_.2.2.2.2.1) (fun hs_ => Or.elim hs_ (fun hs_ => ((Kd.R_types (Kd.R_types (Kd.R_types (Kd.R_apart' (HO_7.out) (Kd.R_typed HO350.out) (by decide)) zpap.out (by decide)) zpau.out (by decide)) zpba.out (by decide)).1 k_ hs_.symm).1.1.1.1.2) (fun hs_ => ((Kd.R_types (Kd.R_types (Kd.R_types (Kd.R_apart' (HO350.out) (Kd.R_typed HO_7.out) (by decide)) zpap.out (by decide)) zpas.out (by decide)) zpau.out (by decide)).1 k_ hs_.symm).1.2))) (fun hn_ => (Kd.freshB (g := zpav) (o := .cells #[.int .i64 a1_0, .string a1_1, .string a1_2, .string a1_3, .int .i64 a1_4] 86 (0, 0)) (zbk zpas) k_ hn_)), Or.elim hk_ (fun hs_ => Or.elim hs_ (fun hs_ => hs_.2.2.2.2.2.1) (fun hs_ => Or.elim hs_ (fun hs_ => ((Kd.R_types (Kd.R_types (Kd.R_types (Kd.R_apart' (HO_7.out) (Kd.R_typed HO350.out) (by decide)) zpap.out (by decide)) zpau.out (by decide)) zpba.out (by decide)).1 k_ hs_.symm).1.2) (fun hs_ => ((Kd.R_types (Kd.R_types (Kd.R_types (Kd.R_apart' (HO350.out) (Kd.R_typed HO_7.out) (by decide)) zpap.out (by decide)) zpas.out (by decide)) zpau.out (by decide)).1 k_ hs_.symm).2))) (fun hn_ => (Kd.freshB (g := zpat) (o := .cells #[.slice none 0 0, .slice none 0 0, .int .i64 zpbe, .bool zpbd, .slice none 0 0, .int .i64 zpbc] 57 (0, 0)) (zbk zpau) k_ hn_)), Or.elim hk_ (fun hs_ => Or.elim hs_ (fun hs_ => hs_.2.2.2.2.2.2) (fun hs_ => Or.elim hs_ (fun hs_ => ((Kd.R_types (Kd.R_types (Kd.R_types (Kd.R_apart' (HO_7.out) (Kd.R_typed HO350.out) (by decide)) zpap.out (by decide)) zpau.out (by decide)) zpba.out (by decide)).1 k_ hs_.symm).2) (fun hs_ => ((Kd.R_types (Kd.R_types (Kd.R_types (Kd.R_apart' (HO350.out) (Kd.R_typed HO_7.out) (by decide)) zpap.out (by decide)) zpas.out (by decide)) zpau.out (by decide)).1 k_ hs_.symm).1.1.1.1.2))) (fun hn_ => (Kd.freshB (g := zpaw) (o := .cells #[.int .i64 ((rd_T90 zpaq zpax).f0), .int .i64 ((rd_T90 zpaq zpax).f1), .int .i64 ((rd_T90 zpaq zpax).f2)] 90 (0, 0)) (zbk zpba) k_ hn_))⟩)) (below_size (by repeat (first | (with_reducible first | exact HB.out | apply zpaj | apply zpah | apply zpai | refine zpag ?_ zpay.out | refine zpag ?_ zpaz.out | refine zpag ?_ zpbb.out | refine zpag ?_ zpbf.out) | exact HB.out)))); have n10_ := zpao (blk_below (g := zpar) (o := .cells #[.slice A0_0 l0_0.length c0_0, .slice Ao57 y327.length co57, .int .i64 a0_2, .bool a0_3, .slice Ao54 y348.length co54, .int .i64 a0_5] 57 (0, 0)) (zbk zpap) hb); have n11_ := zpao (blk_below (g := zpav) (o := .cells #[.int .i64 a1_0, .string a1_1, .string a1_2, .string a1_3, .int .i64 a1_4] 86 (0, 0)) (zbk zpas) hb); have n12_ := zpao (blk_below (g := zpat) (o := .cells #[.slice none 0 0, .slice none 0 0, .int .i64 zpbe, .bool zpbd, .slice none 0 0, .int .i64 zpbc] 57 (0, 0)) (zbk zpau) hb); have n13_ := zpao (blk_below (g := zpaw) (o := .cells #[.int .i64 ((rd_T90 zpaq zpax).f0), .int .i64 ((rd_T90 zpaq zpax).f1), .int .i64 ((rd_T90 zpaq zpax).f2)] 90 (0, 0)) (zbk zpba) hb); have n14_ := zpao (below_step (by repeat (first | (with_reducible first | exact HB.out | apply zpaj | apply zpah | apply zpai | refine zpag ?_ zpay.out | refine zpag ?_ zpaz.out | refine zpag ?_ zpbb.out | refine zpag ?_ zpbf.out) | exact HB.out)) hb); clear HO_7; clear HO_315000; clear HO_315001; clear HO_315004; clear HO339; clear HO347; clear HO350; clear zpap; clear zpas; clear zpau; clear zpba; clear HB; have HO_7 := n0_; have HO_315000 := n1_; have HO_315001 := n2_; have HO_315004 := n3_; have HO339 := n4_; have HO347 := n5_; have HO350 := n6_; have HO353 := n7_; have HO356 := n8_; have HO361 := n9_; have zpap := n10_; have zpas := n11_; have zpau := n12_; have zpba := n13_; have HB := n14_; clear n0_ n1_ n2_ n3_ n4_ n5_ n6_ n7_ n8_ n9_ n10_ n11_ n12_ n13_ n14_; (try clear hb); (try clear hk); (try clear hi); (try clear ho0); (try clear ho1); (try clear ho2); obtain ⟨Ao63, co63, eo63⟩ := Kd.V_slice HO353.out; subst eo63; have hnb64 := zpbr.out; have hnc64 := zpbq.out; have zpfh : w62.cell? ⟨zpat, 0, none⟩ = some (.slice none 0 0) := (zpak zpau.out 0).trans rfl; have zpfi : w62.cell? ⟨zpat, 1, none⟩ = some (.slice none 0 0) := (zpak zpau.out 1).trans rfl; have zpfj : w62.cell? ⟨zpat, 2, none⟩ = some (.int .i64 zpbe) := (zpak zpau.out 2).trans rfl; have zpfk : w62.cell? ⟨zpat, 3, none⟩ = some (.bool zpbd) := (zpak zpau.out 3).trans rfl; have zpfl : w62.cell? ⟨zpat, 4, none⟩ = some (.slice none 0 0) := (zpak zpau.out 4).trans rfl; have zpfm : w62.cell? ⟨zpat, 5, none⟩ = some (.int .i64 zpbc) := (zpak zpau.out 5).trans rfl; have zpfn := zpal zpau.out 0; have zpfo := zpal zpau.out 1; have zpfp := zpal zpau.out 2; have zpfq := zpal zpau.out 3; have zpfr := zpal zpau.out 4; have zpfs := zpal zpau.out 5; obtain ⟨Ao66, co66, eo66⟩ := Kd.V_slice HO356.out; subst eo66; obtain ⟨Ao67, co67, eo67⟩ := Kd.V_slice HO361.out; subst eo67))
              refine bodyPost_ret (results_ct rfl _ _ zpat 57 #[.slice Ao63 t351.length co63, .slice Ao66 t354.length co66, .int .i64 t357, .bool t358, .slice Ao67 t359.length co67, .int .i64 t362] (0, 0) _ rfl (by (with_reducible repeat (first | refine zpad ?_ _ | refine zpaf ?_ | refine zpae ?_ _)); refine blk_put (cs := #[.slice Ao63 t351.length co63, .slice Ao66 t354.length co66, .int .i64 t357, .bool t358, .slice Ao67 t359.length co67, .int .i64 zpbc]) ?_ 5 _ rfl; (with_reducible repeat (first | refine zpad ?_ _ | refine zpaf ?_ | refine zpae ?_ _)); refine blk_put (cs := #[.slice Ao63 t351.length co63, .slice Ao66 t354.length co66, .int .i64 t357, .bool t358, .slice none 0 0, .int .i64 zpbc]) ?_ 4 _ rfl; (with_reducible repeat (first | refine zpad ?_ _ | refine zpaf ?_ | refine zpae ?_ _)); refine blk_put (cs := #[.slice Ao63 t351.length co63, .slice Ao66 t354.length co66, .int .i64 t357, .bool zpbd, .slice none 0 0, .int .i64 zpbc]) ?_ 3 _ rfl; (with_reducible repeat (first | refine zpad ?_ _ | refine zpaf ?_ | refine zpae ?_ _)); refine blk_put (cs := #[.slice Ao63 t351.length co63, .slice Ao66 t354.length co66, .int .i64 zpbe, .bool zpbd, .slice none 0 0, .int .i64 zpbc]) ?_ 2 _ rfl; (with_reducible repeat (first | refine zpad ?_ _ | refine zpaf ?_ | refine zpae ?_ _)); refine blk_put (cs := #[.slice Ao63 t351.length co63, .slice none 0 0, .int .i64 zpbe, .bool zpbd, .slice none 0 0, .int .i64 zpbc]) ?_ 1 _ rfl; (with_reducible repeat (first | refine zpad ?_ _ | refine zpaf ?_ | refine zpae ?_ _)); refine blk_put (cs := #[.slice none 0 0, .slice none 0 0, .int .i64 zpbe, .bool zpbd, .slice none 0 0, .int .i64 zpbc]) ?_ 0 _ rfl; exact zbk zpau) Try.underlying57 rfl (by kernel_rfl)) rfl ?_
              exact ⟨_, _, _, by first | rfl | (simp [errW_none, errW_some] <;> rfl) | (simp only [← hji31]; first | rfl | (simp [errW_none, errW_some] <;> rfl)) | (simp [*, errW_none, errW_some] <;> rfl), by (with_reducible repeat (first | apply Kd.V_alloc | apply Kd.V_drewN | apply Kd.V_drew)); exact Kd.V_mono (Kd.V_far (p := ⟨zpat, 5, none⟩) (Kd.V_far (p := ⟨zpat, 4, none⟩) (Kd.V_far (p := ⟨zpat, 3, none⟩) (Kd.V_far (p := ⟨zpat, 2, none⟩) (Kd.V_far (p := ⟨zpat, 1, none⟩) (Kd.V_far (p := ⟨zpat, 0, none⟩) (Kd.V_mono HO353.out (fun k_ hk => (⟨hk, hk.2.2.2.1⟩ : _ ∧ k_ ≠ zpat))) (fun _ hk => hk.2) (.slice Ao63 t351.length co63)) (fun _ hk => hk.2) (.slice Ao66 t354.length co66)) (fun _ hk => hk.2) (.int .i64 t357)) (fun _ hk => hk.2) (.bool t358)) (fun _ hk => hk.2) (.slice Ao67 t359.length co67)) (fun _ hk => hk.2) (.int .i64 t362)) (fun _ hk => hk.1.1), by (with_reducible repeat (first | apply Kd.V_alloc | apply Kd.V_drewN | apply Kd.V_drew)); exact Kd.V_mono (Kd.V_far (p := ⟨zpat, 5, none⟩) (Kd.V_far (p := ⟨zpat, 4, none⟩) (Kd.V_far (p := ⟨zpat, 3, none⟩) (Kd.V_far (p := ⟨zpat, 2, none⟩) (Kd.V_far (p := ⟨zpat, 1, none⟩) (Kd.V_far (p := ⟨zpat, 0, none⟩) (Kd.V_mono HO356.out (fun k_ hk => (⟨hk, hk.2.2.2.1⟩ : _ ∧ k_ ≠ zpat))) (fun _ hk => hk.2) (.slice Ao63 t351.length co63)) (fun _ hk => hk.2) (.slice Ao66 t354.length co66)) (fun _ hk => hk.2) (.int .i64 t357)) (fun _ hk => hk.2) (.bool t358)) (fun _ hk => hk.2) (.slice Ao67 t359.length co67)) (fun _ hk => hk.2) (.int .i64 t362)) (fun _ hk => hk.1.1), by (with_reducible repeat (first | apply Kd.V_alloc | apply Kd.V_drewN | apply Kd.V_drew)); exact Kd.V_mono (Kd.V_far (p := ⟨zpat, 5, none⟩) (Kd.V_far (p := ⟨zpat, 4, none⟩) (Kd.V_far (p := ⟨zpat, 3, none⟩) (Kd.V_far (p := ⟨zpat, 2, none⟩) (Kd.V_far (p := ⟨zpat, 1, none⟩) (Kd.V_far (p := ⟨zpat, 0, none⟩) (Kd.V_mono HO361.out (fun k_ hk => (⟨hk, hk.2.2.2.1⟩ : _ ∧ k_ ≠ zpat))) (fun _ hk => hk.2) (.slice Ao63 t351.length co63)) (fun _ hk => hk.2) (.slice Ao66 t354.length co66)) (fun _ hk => hk.2) (.int .i64 t357)) (fun _ hk => hk.2) (.bool t358)) (fun _ hk => hk.2) (.slice Ao67 t359.length co67)) (fun _ hk => hk.2) (.int .i64 t362)) (fun _ hk => hk.1.1), by repeat (first | (with_reducible first | exact HB.out | apply zpaj | apply zpah | apply zpai | refine zpag ?_ zpay.out | refine zpag ?_ zpaz.out | refine zpag ?_ zpbb.out | refine zpag ?_ zpbf.out) | exact HB.out)⟩
             ·rw [if_neg c34] at H
              exact absurd H (by simp)
            ·rw [if_neg c33] at H
             exact absurd H (by simp)
           ·rw [if_neg c32] at H
            exact absurd H (by simp)
          ·rw [if_neg c30] at H
           exact absurd H (by simp)
         ·rw [if_neg c29] at H
          exact absurd H (by simp)
        ·rw [if_neg c27] at H
         have c27b0 : (((rd_T90 zpaq zpax).f0) == a0_2) = false := beq_eq_false_iff_ne.mpr c27
         have c27b1 : (((rd_T90 zpaq zpax).f0) != a0_2) = true := bne_iff_ne.mpr c27
         have H' := zpao H
         clear H
         have hnb68 := zpbm.out
         have hnc68 := zpbi.out
         have hnb69 := zpbn.out
         have hnc69 := zpbg.out
         have zpft : wr.cell? ⟨zpar, 0, none⟩ = some (.slice A0_0 l0_0.length c0_0) := (zpak zpap.out 0).trans rfl
         have zpfu : wr.cell? ⟨zpar, 1, none⟩ = some (u315001) := (zpak zpap.out 1).trans rfl
         have zpfv : wr.cell? ⟨zpar, 2, none⟩ = some (.int .i64 a0_2) := (zpak zpap.out 2).trans rfl
         have zpfw : wr.cell? ⟨zpar, 3, none⟩ = some (.bool a0_3) := (zpak zpap.out 3).trans rfl
         have zpfx : wr.cell? ⟨zpar, 4, none⟩ = some (u315004) := (zpak zpap.out 4).trans rfl
         have zpfy : wr.cell? ⟨zpar, 5, none⟩ = some (.int .i64 a0_5) := (zpak zpap.out 5).trans rfl
         have zpfz := zpal zpap.out 0
         have zpga := zpal zpap.out 1
         have zpgb := zpal zpap.out 2
         have zpgc := zpal zpap.out 3
         have zpgd := zpal zpap.out 4
         have zpge := zpal zpap.out 5
         obtain ⟨Ao71, co71, eo71⟩ := Kd.V_slice HO_315004.out
         subst eo71
         have p330 : 0 ≤ (zpax : Int) := of_decide_eq_true (by first | (with_reducible assumption) | assumption)
         have q330 : zpax < (zpaq.length : Int) := of_decide_eq_true (by first | (with_reducible assumption) | assumption)
         obtain ⟨ad330, e330, hx330_0, hx330_1, hx330_2⟩ := at_T90 (Kd.V_reads' HO_315004.out).2.2 zpax p330 q330
         cases e330
         replace p330 := eq_true p330
         replace q330 := eq_true q330
         go_wp2_with (first | ((with_reducible refine gate_dst (N := 9) rfl ?_); refine box_event ?hg (N := 9) ?hd (cs := #[.int .i64 0, .int .i64 0, .int .i64 0]) (t := 90) ?hr ?_; (case hd => rfl); (case hg => rfl); (case hr => first | (go_simp; done) | (go_simp; rfl)); intro zpaw hg w72 hbox hb; have n0_ := zpao (Kd.R_below (zrk HO_7) hb); have n1_ := zpao (Kd.V_below (Kd.V_elderB (zvk HO_315000) zpaw (Nat.le_of_eq hg.symm)) hb); have n2_ := zpao (Kd.V_below (Kd.V_elderB (zvk HO_315001) zpaw (Nat.le_of_eq hg.symm)) hb); have n3_ := zpao (Kd.V_below (Kd.V_elderB (zvk HO_315004) zpaw (Nat.le_of_eq hg.symm)) hb); have n4_ := zpao (blk_below (g := zpar) (o := .cells #[.slice A0_0 l0_0.length c0_0, u315001, .int .i64 a0_2, .bool a0_3, .slice (some ad330) zpaq.length co71, .int .i64 a0_5] 57 (0, 0)) (zbk zpap) hb); have n5_ := zpao (blk_below (g := zpav) (o := .cells #[.int .i64 a1_0, .string a1_1, .string a1_2, .string a1_3, .int .i64 a1_4] 86 (0, 0)) (zbk zpas) hb); have n6_ := zpao (blk_below (g := zpat) (o := .cells #[.slice none 0 0, .slice none 0 0, .int .i64 zpbe, .bool zpbd, .slice none 0 0, .int .i64 zpbc] 57 (0, 0)) (zbk zpau) hb); have n7_ := zpao (below_step (by repeat (first | (with_reducible first | exact HB.out | apply zpaj | apply zpah | apply zpai | refine zpag ?_ zpay.out | refine zpag ?_ zpaz.out | refine zpag ?_ zpbb.out) | exact HB.out)) hb); have n8_ := zpao (hbox); have n9_ := zpao ((by rw [hg]; exact (below_size (by repeat (first | (with_reducible first | exact HB.out | apply zpaj | apply zpah | apply zpai | refine zpag ?_ zpay.out | refine zpag ?_ zpaz.out | refine zpag ?_ zpbb.out) | exact HB.out))) : w.heap.size ≤ zpaw)); have n10_ := zpao ((by rw [hg]; exact (below_size (by repeat (first | (with_reducible first | exact HB.out | apply zpaj | apply zpah | apply zpai | refine zpag ?_ zpay.out | refine zpag ?_ zpaz.out | refine zpag ?_ zpbb.out) | exact HB.out))) : w.heap.size ≤ zpaw)); have n11_ := zpao ((by rw [hg]; exact zpam (blk_lt (g := zpar) (o := .cells #[.slice A0_0 l0_0.length c0_0, u315001, .int .i64 a0_2, .bool a0_3, .slice (some ad330) zpaq.length co71, .int .i64 a0_5] 57 (0, 0)) (zbk zpap)) : zpar ≠ zpaw)); have n12_ := zpao ((by rw [hg]; exact zpan (blk_lt (g := zpar) (o := .cells #[.slice A0_0 l0_0.length c0_0, u315001, .int .i64 a0_2, .bool a0_3, .slice (some ad330) zpaq.length co71, .int .i64 a0_5] 57 (0, 0)) (zbk zpap)) : zpaw ≠ zpar)); have n13_ := zpao ((by rw [hg]; exact zpam (blk_lt (g := zpav) (o := .cells #[.int .i64 a1_0, .string a1_1, .string a1_2, .string a1_3, .int .i64 a1_4] 86 (0, 0)) (zbk zpas)) : zpav ≠ zpaw)); have n14_ := zpao ((by rw [hg]; exact zpan (blk_lt (g := zpav) (o := .cells #[.int .i64 a1_0, .string a1_1, .string a1_2, .string a1_3, .int .i64 a1_4] 86 (0, 0)) (zbk zpas)) : zpaw ≠ zpav)); have n15_ := zpao ((by rw [hg]; exact zpam (blk_lt (g := zpat) (o := .cells #[.slice none 0 0, .slice none 0 0, .int .i64 zpbe, .bool zpbd, .slice none 0 0, .int .i64 zpbc] 57 (0, 0)) (zbk zpau)) : zpat ≠ zpaw)); have n16_ := zpao ((by rw [hg]; exact zpan (blk_lt (g := zpat) (o := .cells #[.slice none 0 0, .slice none 0 0, .int .i64 zpbe, .bool zpbd, .slice none 0 0, .int .i64 zpbc] 57 (0, 0)) (zbk zpau)) : zpaw ≠ zpat)); clear HO_7; clear HO_315000; clear HO_315001; clear HO_315004; clear zpap; clear zpas; clear zpau; clear HB; have HO_7 := n0_; have HO_315000 := n1_; have HO_315001 := n2_; have HO_315004 := n3_; have zpap := n4_; have zpas := n5_; have zpau := n6_; have HB := n7_; have zpba := n8_; have zpcy := n9_; have zpbf := n10_; have zpbh := n11_; have zpbp := n12_; have zpbj := n13_; have zpbs := n14_; have zpbk := n15_; have zpbt := n16_; clear n0_ n1_ n2_ n3_ n4_ n5_ n6_ n7_ n8_ n9_ n10_ n11_ n12_ n13_ n14_ n15_ n16_; clear hb hbox hg; have hnb73 := zpbp.out; have hnc73 := zpbh.out; have hnb74 := zpbs.out; have hnc74 := zpbj.out; have hnb75 := zpbt.out; have hnc75 := zpbk.out; have zpgf : w72.cell? ⟨zpaw, 0, none⟩ = some (.int .i64 0) := (zpak zpba.out 0).trans rfl; have zpgg : w72.cell? ⟨zpaw, 1, none⟩ = some (.int .i64 0) := (zpak zpba.out 1).trans rfl; have zpgh : w72.cell? ⟨zpaw, 2, none⟩ = some (.int .i64 0) := (zpak zpba.out 2).trans rfl; have zpgi := zpal zpba.out 0; have zpgj := zpal zpba.out 1; have zpgk := zpal zpba.out 2; have zpgl : w72.cell? ⟨zpar, 0, none⟩ = some (.slice A0_0 l0_0.length c0_0) := (zpak zpap.out 0).trans rfl; have zpgm : w72.cell? ⟨zpar, 1, none⟩ = some (u315001) := (zpak zpap.out 1).trans rfl; have zpgn : w72.cell? ⟨zpar, 2, none⟩ = some (.int .i64 a0_2) := (zpak zpap.out 2).trans rfl; have zpgo : w72.cell? ⟨zpar, 3, none⟩ = some (.bool a0_3) := (zpak zpap.out 3).trans rfl; have zpgp : w72.cell? ⟨zpar, 4, none⟩ = some (.slice (some ad330) zpaq.length co71) := (zpak zpap.out 4).trans rfl; have zpgq : w72.cell? ⟨zpar, 5, none⟩ = some (.int .i64 a0_5) := (zpak zpap.out 5).trans rfl; have zpgr := zpal zpap.out 0; have zpgs := zpal zpap.out 1; have zpgt := zpal zpap.out 2; have zpgu := zpal zpap.out 3; have zpgv := zpal zpap.out 4; have zpgw := zpal zpap.out 5))
         go_roundg k1
         case measure => have := HK1.out; omega
         case rel => exact ⟨(wrap64 (zpax + 1)), (zpbo), (zpaq), (zpbe), (zpbd), (zpbc), (u315001), (.slice (some ad330) zpaq.length co71), (by first | rfl | (simp; done) | (simp [*]; done)), H', ⟨by have := HK1.out; omega⟩, ⟨by (with_reducible repeat (first | apply Kd.R_alloc | apply Kd.R_drewN | apply Kd.R_drew)); exact Kd.R_mono (Kd.R_far (p := ⟨zpaw, 2, none⟩) (Kd.R_far (p := ⟨zpaw, 1, none⟩) (Kd.R_far (p := ⟨zpaw, 0, none⟩) (Kd.R_types HO_7.out zpba.out (by decide)) (fun _ hk => hk.2) (.int .i64 ((rd_T90 zpaq zpax).f0))) (fun _ hk => hk.2) (.int .i64 ((rd_T90 zpaq zpax).f1))) (fun _ hk => hk.2) (.int .i64 ((rd_T90 zpaq zpax).f2))) (fun _ hk => ⟨hk.1.1, hk.1.2⟩)⟩, ⟨by (with_reducible repeat (first | apply Kd.V_alloc | apply Kd.V_drewN | apply Kd.V_drew)); exact Kd.V_mono (Kd.V_far (p := ⟨zpaw, 2, none⟩) (Kd.V_far (p := ⟨zpaw, 1, none⟩) (Kd.V_far (p := ⟨zpaw, 0, none⟩) (Kd.V_mono HO_315000.out (fun k_ hk => (⟨hk, hk.2⟩ : _ ∧ k_ ≠ zpaw))) (fun _ hk => hk.2) (.int .i64 ((rd_T90 zpaq zpax).f0))) (fun _ hk => hk.2) (.int .i64 ((rd_T90 zpaq zpax).f1))) (fun _ hk => hk.2) (.int .i64 ((rd_T90 zpaq zpax).f2))) (fun _ hk => ⟨hk.1.1.1, ⟨hk.1.1.2.1, ⟨hk.1.1.2.2.1, ⟨hk.1.1.2.2.2.1, hk.1.1.2.2.2.2⟩⟩⟩⟩)⟩, ⟨by (with_reducible repeat (first | apply Kd.V_alloc | apply Kd.V_drewN | apply Kd.V_drew)); exact Kd.V_mono (Kd.V_far (p := ⟨zpaw, 2, none⟩) (Kd.V_far (p := ⟨zpaw, 1, none⟩) (Kd.V_far (p := ⟨zpaw, 0, none⟩) (Kd.V_mono HO_315001.out (fun k_ hk => (⟨hk, hk.2⟩ : _ ∧ k_ ≠ zpaw))) (fun _ hk => hk.2) (.int .i64 ((rd_T90 zpaq zpax).f0))) (fun _ hk => hk.2) (.int .i64 ((rd_T90 zpaq zpax).f1))) (fun _ hk => hk.2) (.int .i64 ((rd_T90 zpaq zpax).f2))) (fun _ hk => ⟨hk.1.1.1, ⟨hk.1.1.2.1, ⟨hk.1.1.2.2.1, ⟨hk.1.1.2.2.2.1, hk.1.1.2.2.2.2⟩⟩⟩⟩)⟩, ⟨by (with_reducible repeat (first | apply Kd.V_alloc | apply Kd.V_drewN | apply Kd.V_drew)); exact Kd.V_mono (Kd.V_far (p := ⟨zpaw, 2, none⟩) (Kd.V_far (p := ⟨zpaw, 1, none⟩) (Kd.V_far (p := ⟨zpaw, 0, none⟩) (Kd.V_mono HO_315004.out (fun k_ hk => (⟨hk, hk.2⟩ : _ ∧ k_ ≠ zpaw))) (fun _ hk => hk.2) (.int .i64 ((rd_T90 zpaq zpax).f0))) (fun _ hk => hk.2) (.int .i64 ((rd_T90 zpaq zpax).f1))) (fun _ hk => hk.2) (.int .i64 ((rd_T90 zpaq zpax).f2))) (fun _ hk => ⟨hk.1.1.1, ⟨hk.1.1.2.1, ⟨hk.1.1.2.2.1, ⟨hk.1.1.2.2.2.1, hk.1.1.2.2.2.2⟩⟩⟩⟩)⟩, ⟨by (iterate 3 ((with_reducible repeat (first | refine zpad ?_ _ | refine zpaf ?_ | refine zpae ?_ _)); refine blk_far ?_ zpbh.out _)); exact zbk zpap⟩, ⟨by (iterate 3 ((with_reducible repeat (first | refine zpad ?_ _ | refine zpaf ?_ | refine zpae ?_ _)); refine blk_far ?_ zpbj.out _)); exact zbk zpas⟩, ⟨by (iterate 3 ((with_reducible repeat (first | refine zpad ?_ _ | refine zpaf ?_ | refine zpae ?_ _)); refine blk_far ?_ zpbk.out _)); exact zbk zpau⟩, ⟨by repeat (first | (with_reducible first | exact HB.out | apply zpaj | apply zpah | apply zpai | refine zpag ?_ zpay.out | refine zpag ?_ zpaz.out | refine zpag ?_ zpbb.out | refine zpag ?_ zpbf.out) | exact HB.out)⟩⟩
       ·rw [if_neg c26] at H
        exact absurd H (by simp)
      ·rw [if_neg c25] at H
       have c25b0 : decide (zpax < (zpaq.length : Int)) = false := decide_eq_false c25
       clear c25
       simp only [Option.some.injEq, Prod.mk.injEq] at H
       obtain ⟨rfl, rfl, rfl, rfl, rfl, rfl, rfl⟩ := H
       have hnb78 := zpbm.out
       have hnc78 := zpbi.out
       have hnb79 := zpbn.out
       have hnc79 := zpbg.out
       have zpgx : wr.cell? ⟨zpar, 0, none⟩ = some (.slice A0_0 l0_0.length c0_0) := (zpak zpap.out 0).trans rfl
       have zpgy : wr.cell? ⟨zpar, 1, none⟩ = some (u315001) := (zpak zpap.out 1).trans rfl
       have zpgz : wr.cell? ⟨zpar, 2, none⟩ = some (.int .i64 a0_2) := (zpak zpap.out 2).trans rfl
       have zpha : wr.cell? ⟨zpar, 3, none⟩ = some (.bool a0_3) := (zpak zpap.out 3).trans rfl
       have zphb : wr.cell? ⟨zpar, 4, none⟩ = some (u315004) := (zpak zpap.out 4).trans rfl
       have zphc : wr.cell? ⟨zpar, 5, none⟩ = some (.int .i64 a0_5) := (zpak zpap.out 5).trans rfl
       have zphd := zpal zpap.out 0
       have zphe := zpal zpap.out 1
       have zphf := zpal zpap.out 2
       have zphg := zpal zpap.out 3
       have zphh := zpal zpap.out 4
       have zphi := zpal zpap.out 5
       obtain ⟨Ao81, co81, eo81⟩ := Kd.V_slice HO_315004.out
       subst eo81
       obtain ⟨Ao82, co82, eo82⟩ := Kd.R_slice HO_7.out
       subst eo82
       have hnb83 := zpbr.out
       have hnc83 := zpbq.out
       have zphj : wr.cell? ⟨zpat, 0, none⟩ = some (.slice none 0 0) := (zpak zpau.out 0).trans rfl
       have zphk : wr.cell? ⟨zpat, 1, none⟩ = some (.slice none 0 0) := (zpak zpau.out 1).trans rfl
       have zphl : wr.cell? ⟨zpat, 2, none⟩ = some (.int .i64 zpbe) := (zpak zpau.out 2).trans rfl
       have zphm : wr.cell? ⟨zpat, 3, none⟩ = some (.bool zpbd) := (zpak zpau.out 3).trans rfl
       have zphn : wr.cell? ⟨zpat, 4, none⟩ = some (.slice none 0 0) := (zpak zpau.out 4).trans rfl
       have zpho : wr.cell? ⟨zpat, 5, none⟩ = some (.int .i64 zpbc) := (zpak zpau.out 5).trans rfl
       have zphp := zpal zpau.out 0
       have zphq := zpal zpau.out 1
       have zphr := zpal zpau.out 2
       have zphs := zpal zpau.out 3
       have zpht := zpal zpau.out 4
       have zphu := zpal zpau.out 5
       go_wp2
       refine bodyPost_ret (results_ct rfl _ _ zpat 57 #[.slice A0_0 l0_0.length c0_0, .slice Ao82 y327.length co82, .int .i64 (wrap64 (a0_2 + 1)), .bool a0_3, .slice Ao81 zpaq.length co81, .int .i64 a0_5] (0, 0) _ rfl (by (with_reducible repeat (first | refine zpad ?_ _ | refine zpaf ?_ | refine zpae ?_ _)); refine blk_put (cs := #[.slice A0_0 l0_0.length c0_0, .slice Ao82 y327.length co82, .int .i64 (wrap64 (a0_2 + 1)), .bool a0_3, .slice Ao81 zpaq.length co81, .int .i64 zpbc]) ?_ 5 _ rfl; (with_reducible repeat (first | refine zpad ?_ _ | refine zpaf ?_ | refine zpae ?_ _)); refine blk_put (cs := #[.slice A0_0 l0_0.length c0_0, .slice Ao82 y327.length co82, .int .i64 (wrap64 (a0_2 + 1)), .bool a0_3, .slice none 0 0, .int .i64 zpbc]) ?_ 4 _ rfl; (with_reducible repeat (first | refine zpad ?_ _ | refine zpaf ?_ | refine zpae ?_ _)); refine blk_put (cs := #[.slice A0_0 l0_0.length c0_0, .slice Ao82 y327.length co82, .int .i64 (wrap64 (a0_2 + 1)), .bool zpbd, .slice none 0 0, .int .i64 zpbc]) ?_ 3 _ rfl; (with_reducible repeat (first | refine zpad ?_ _ | refine zpaf ?_ | refine zpae ?_ _)); refine blk_put (cs := #[.slice A0_0 l0_0.length c0_0, .slice Ao82 y327.length co82, .int .i64 zpbe, .bool zpbd, .slice none 0 0, .int .i64 zpbc]) ?_ 2 _ rfl; (with_reducible repeat (first | refine zpad ?_ _ | refine zpaf ?_ | refine zpae ?_ _)); refine blk_put (cs := #[.slice A0_0 l0_0.length c0_0, .slice none 0 0, .int .i64 zpbe, .bool zpbd, .slice none 0 0, .int .i64 zpbc]) ?_ 1 _ rfl; (with_reducible repeat (first | refine zpad ?_ _ | refine zpaf ?_ | refine zpae ?_ _)); refine blk_put (cs := #[.slice none 0 0, .slice none 0 0, .int .i64 zpbe, .bool zpbd, .slice none 0 0, .int .i64 zpbc]) ?_ 0 _ rfl; (iterate 2 ((with_reducible repeat (first | refine zpad ?_ _ | refine zpaf ?_ | refine zpae ?_ _)); refine blk_far ?_ zpbg.out _)); exact zbk zpau) Try.underlying57 rfl (by kernel_rfl)) rfl ?_
       exact ⟨_, _, _, by first | rfl | (simp [errW_none, errW_some] <;> rfl) | (simp [*, errW_none, errW_some] <;> rfl), by (with_reducible repeat (first | apply Kd.V_alloc | apply Kd.V_drewN | apply Kd.V_drew)); exact Kd.V_mono (Kd.V_far (p := ⟨zpat, 5, none⟩) (Kd.V_far (p := ⟨zpat, 4, none⟩) (Kd.V_far (p := ⟨zpat, 3, none⟩) (Kd.V_far (p := ⟨zpat, 2, none⟩) (Kd.V_far (p := ⟨zpat, 1, none⟩) (Kd.V_far (p := ⟨zpat, 0, none⟩) (Kd.V_far (p := ⟨zpar, 2, none⟩) (Kd.V_far (p := ⟨zpar, 1, none⟩) (Kd.V_mono (Kd.V_mono HO_315000.out (fun k_ hk => (⟨hk, hk.2.2.1⟩ : _ ∧ k_ ≠ zpar))) (fun k_ hk => (⟨hk, hk.1.2.2.2.2⟩ : _ ∧ k_ ≠ zpat))) (fun _ hk => hk.1.2) (.slice Ao82 y327.length co82)) (fun _ hk => hk.1.2) (.int .i64 (wrap64 (a0_2 + 1)))) (fun _ hk => hk.2) (.slice A0_0 l0_0.length c0_0)) (fun _ hk => hk.2) (.slice Ao82 y327.length co82)) (fun _ hk => hk.2) (.int .i64 (wrap64 (a0_2 + 1)))) (fun _ hk => hk.2) (.bool a0_3)) (fun _ hk => hk.2) (.slice Ao81 zpaq.length co81)) (fun _ hk => hk.2) (.int .i64 a0_5)) (fun _ hk => hk.1.1.1), Kd.V_mono (Kd.R_V (by (with_reducible repeat (first | apply Kd.R_alloc | apply Kd.R_drewN | apply Kd.R_drew)); exact Kd.R_mono (Kd.R_far (p := ⟨zpat, 5, none⟩) (Kd.R_far (p := ⟨zpat, 4, none⟩) (Kd.R_far (p := ⟨zpat, 3, none⟩) (Kd.R_far (p := ⟨zpat, 2, none⟩) (Kd.R_far (p := ⟨zpat, 1, none⟩) (Kd.R_far (p := ⟨zpat, 0, none⟩) (Kd.R_far (p := ⟨zpar, 2, none⟩) (Kd.R_far (p := ⟨zpar, 1, none⟩) (Kd.R_types (Kd.R_types HO_7.out zpap.out (by decide)) zpau.out (by decide)) (fun _ hk => hk.1.2) (.slice Ao82 y327.length co82)) (fun _ hk => hk.1.2) (.int .i64 (wrap64 (a0_2 + 1)))) (fun _ hk => hk.2) (.slice A0_0 l0_0.length c0_0)) (fun _ hk => hk.2) (.slice Ao82 y327.length co82)) (fun _ hk => hk.2) (.int .i64 (wrap64 (a0_2 + 1)))) (fun _ hk => hk.2) (.bool a0_3)) (fun _ hk => hk.2) (.slice Ao81 zpaq.length co81)) (fun _ hk => hk.2) (.int .i64 a0_5)) (fun _ hk => hk.1.1.1))) (fun k_ hk => by first | exact ⟨(.inr (hk.1)), hk.2⟩ | exact (.inr (hk))), by (with_reducible repeat (first | apply Kd.V_alloc | apply Kd.V_drewN | apply Kd.V_drew)); exact Kd.V_mono (Kd.V_far (p := ⟨zpat, 5, none⟩) (Kd.V_far (p := ⟨zpat, 4, none⟩) (Kd.V_far (p := ⟨zpat, 3, none⟩) (Kd.V_far (p := ⟨zpat, 2, none⟩) (Kd.V_far (p := ⟨zpat, 1, none⟩) (Kd.V_far (p := ⟨zpat, 0, none⟩) (Kd.V_far (p := ⟨zpar, 2, none⟩) (Kd.V_far (p := ⟨zpar, 1, none⟩) (Kd.V_mono (Kd.V_mono HO_315004.out (fun k_ hk => (⟨hk, hk.2.2.1⟩ : _ ∧ k_ ≠ zpar))) (fun k_ hk => (⟨hk, hk.1.2.2.2.2⟩ : _ ∧ k_ ≠ zpat))) (fun _ hk => hk.1.2) (.slice Ao82 y327.length co82)) (fun _ hk => hk.1.2) (.int .i64 (wrap64 (a0_2 + 1)))) (fun _ hk => hk.2) (.slice A0_0 l0_0.length c0_0)) (fun _ hk => hk.2) (.slice Ao82 y327.length co82)) (fun _ hk => hk.2) (.int .i64 (wrap64 (a0_2 + 1)))) (fun _ hk => hk.2) (.bool a0_3)) (fun _ hk => hk.2) (.slice Ao81 zpaq.length co81)) (fun _ hk => hk.2) (.int .i64 a0_5)) (fun _ hk => hk.1.1.1), by repeat (first | (with_reducible first | exact HB.out | apply zpaj | apply zpah | apply zpai | refine zpag ?_ zpay.out | refine zpag ?_ zpaz.out | refine zpag ?_ zpbb.out) | exact HB.out)⟩
   ·rw [if_neg c6] at H
    exact absurd H (by simp)
  ·rw [if_neg c5] at H
   exact absurd H (by simp)
 ·rw [if_neg c4] at H
  have c4b0 : (t317 == 0) = false := beq_eq_false_iff_ne.mpr c4
  have c4b1 : (t317 != 0) = true := bne_iff_ne.mpr c4
  simp only [Option.some.injEq, Prod.mk.injEq] at H
  obtain ⟨rfl, rfl, rfl, rfl, rfl, rfl, rfl⟩ := H
  go_enter Try.func44, Try.ntmps44
  go_wp2_with (first | ((with_reducible refine gate_dst (N := 2) rfl ?_); refine box_event ?hg (N := 2) ?hd (cs := #[.slice A0_0 l0_0.length c0_0, .slice A0_1 l0_1.length c0_1, .int .i64 a0_2, .bool a0_3, .slice A0_4 l0_4.length c0_4, .int .i64 a0_5]) (t := 57) ?hr ?_; (case hd => rfl); (case hg => rfl); (case hr => first | (go_simp; done) | (go_simp; rfl)); intro zpar hg w85 hbox hb; have n0_ := zpao (Kd.V_below (Kd.V_elderB (zvk HO0_0) zpar (Nat.le_of_eq hg.symm)) hb); have n1_ := zpao (Kd.V_below (Kd.V_elderB (zvk HO0_1) zpar (Nat.le_of_eq hg.symm)) hb); have n2_ := zpao (Kd.V_below (Kd.V_elderB (zvk HO0_4) zpar (Nat.le_of_eq hg.symm)) hb); have n3_ := zpao (below_step (by repeat (first | (with_reducible first | exact HB.out | apply zpaj | apply zpah | apply zpai) | exact HB.out)) hb); have n4_ := zpao (hbox); have n5_ := zpao ((by rw [hg]; exact (below_size (by repeat (first | (with_reducible first | exact HB.out | apply zpaj | apply zpah | apply zpai) | exact HB.out))) : w.heap.size ≤ zpar)); have n6_ := zpao ((by rw [hg]; exact (below_size (by repeat (first | (with_reducible first | exact HB.out | apply zpaj | apply zpah | apply zpai) | exact HB.out))) : w.heap.size ≤ zpar)); clear HO0_0; clear HO0_1; clear HO0_4; clear HB; have HO0_0 := n0_; have HO0_1 := n1_; have HO0_4 := n2_; have HB := n3_; have zpap := n4_; have zpcv := n5_; have zpay := n6_; clear n0_ n1_ n2_ n3_ n4_ n5_ n6_; clear hb hbox hg) | ((with_reducible refine gate_dst (N := 3) rfl ?_); refine box_event ?hg (N := 3) ?hd (cs := #[.int .i64 a1_0, .string a1_1, .string a1_2, .string a1_3, .int .i64 a1_4]) (t := 86) ?hr ?_; (case hd => rfl); (case hg => rfl); (case hr => first | (go_simp; done) | (go_simp; rfl)); intro zpav hg w86 hbox hb; have n0_ := zpao (Kd.V_below (Kd.V_elderB (zvk HO0_0) zpav (Nat.le_of_eq hg.symm)) hb); have n1_ := zpao (Kd.V_below (Kd.V_elderB (zvk HO0_1) zpav (Nat.le_of_eq hg.symm)) hb); have n2_ := zpao (Kd.V_below (Kd.V_elderB (zvk HO0_4) zpav (Nat.le_of_eq hg.symm)) hb); have n3_ := zpao (blk_below (g := zpar) (o := .cells #[.slice A0_0 l0_0.length c0_0, .slice A0_1 l0_1.length c0_1, .int .i64 a0_2, .bool a0_3, .slice A0_4 l0_4.length c0_4, .int .i64 a0_5] 57 (0, 0)) (zbk zpap) hb); have n4_ := zpao (below_step (by repeat (first | (with_reducible first | exact HB.out | apply zpaj | apply zpah | apply zpai | refine zpag ?_ zpay.out) | exact HB.out)) hb); have n5_ := zpao (hbox); have n6_ := zpao ((by rw [hg]; exact (below_size (by repeat (first | (with_reducible first | exact HB.out | apply zpaj | apply zpah | apply zpai | refine zpag ?_ zpay.out) | exact HB.out))) : w.heap.size ≤ zpav)); have n7_ := zpao ((by rw [hg]; exact (below_size (by repeat (first | (with_reducible first | exact HB.out | apply zpaj | apply zpah | apply zpai | refine zpag ?_ zpay.out) | exact HB.out))) : w.heap.size ≤ zpav)); have n8_ := zpao ((by rw [hg]; exact zpam (blk_lt (g := zpar) (o := .cells #[.slice A0_0 l0_0.length c0_0, .slice A0_1 l0_1.length c0_1, .int .i64 a0_2, .bool a0_3, .slice A0_4 l0_4.length c0_4, .int .i64 a0_5] 57 (0, 0)) (zbk zpap)) : zpar ≠ zpav)); have n9_ := zpao ((by rw [hg]; exact zpan (blk_lt (g := zpar) (o := .cells #[.slice A0_0 l0_0.length c0_0, .slice A0_1 l0_1.length c0_1, .int .i64 a0_2, .bool a0_3, .slice A0_4 l0_4.length c0_4, .int .i64 a0_5] 57 (0, 0)) (zbk zpap)) : zpav ≠ zpar)); clear HO0_0; clear HO0_1; clear HO0_4; clear zpap; clear HB; have HO0_0 := n0_; have HO0_1 := n1_; have HO0_4 := n2_; have zpap := n3_; have HB := n4_; have zpas := n5_; have zpcw := n6_; have zpaz := n7_; have zpbm := n8_; have zpbi := n9_; clear n0_ n1_ n2_ n3_ n4_ n5_ n6_ n7_ n8_ n9_; clear hb hbox hg) | ((with_reducible refine gate_dst (N := 4) rfl ?_); refine box_event ?hg (N := 4) ?hd (cs := #[.slice none 0 0, .slice none 0 0, .int .i64 0, .bool false, .slice none 0 0, .int .i64 0]) (t := 57) ?hr ?_; (case hd => rfl); (case hg => rfl); (case hr => first | (go_simp; done) | (go_simp; rfl)); intro zpat hg w87 hbox hb; have n0_ := zpao (Kd.V_below (Kd.V_elderB (zvk HO0_0) zpat (Nat.le_of_eq hg.symm)) hb); have n1_ := zpao (Kd.V_below (Kd.V_elderB (zvk HO0_1) zpat (Nat.le_of_eq hg.symm)) hb); have n2_ := zpao (Kd.V_below (Kd.V_elderB (zvk HO0_4) zpat (Nat.le_of_eq hg.symm)) hb); have n3_ := zpao (blk_below (g := zpar) (o := .cells #[.slice A0_0 l0_0.length c0_0, .slice A0_1 l0_1.length c0_1, .int .i64 a0_2, .bool a0_3, .slice A0_4 l0_4.length c0_4, .int .i64 a0_5] 57 (0, 0)) (zbk zpap) hb); have n4_ := zpao (blk_below (g := zpav) (o := .cells #[.int .i64 a1_0, .string a1_1, .string a1_2, .string a1_3, .int .i64 a1_4] 86 (0, 0)) (zbk zpas) hb); have n5_ := zpao (below_step (by repeat (first | (with_reducible first | exact HB.out | apply zpaj | apply zpah | apply zpai | refine zpag ?_ zpay.out | refine zpag ?_ zpaz.out) | exact HB.out)) hb); have n6_ := zpao (hbox); have n7_ := zpao ((by rw [hg]; exact (below_size (by repeat (first | (with_reducible first | exact HB.out | apply zpaj | apply zpah | apply zpai | refine zpag ?_ zpay.out | refine zpag ?_ zpaz.out) | exact HB.out))) : w.heap.size ≤ zpat)); have n8_ := zpao ((by rw [hg]; exact (below_size (by repeat (first | (with_reducible first | exact HB.out | apply zpaj | apply zpah | apply zpai | refine zpag ?_ zpay.out | refine zpag ?_ zpaz.out) | exact HB.out))) : w.heap.size ≤ zpat)); have n9_ := zpao ((by rw [hg]; exact zpam (blk_lt (g := zpar) (o := .cells #[.slice A0_0 l0_0.length c0_0, .slice A0_1 l0_1.length c0_1, .int .i64 a0_2, .bool a0_3, .slice A0_4 l0_4.length c0_4, .int .i64 a0_5] 57 (0, 0)) (zbk zpap)) : zpar ≠ zpat)); have n10_ := zpao ((by rw [hg]; exact zpan (blk_lt (g := zpar) (o := .cells #[.slice A0_0 l0_0.length c0_0, .slice A0_1 l0_1.length c0_1, .int .i64 a0_2, .bool a0_3, .slice A0_4 l0_4.length c0_4, .int .i64 a0_5] 57 (0, 0)) (zbk zpap)) : zpat ≠ zpar)); have n11_ := zpao ((by rw [hg]; exact zpam (blk_lt (g := zpav) (o := .cells #[.int .i64 a1_0, .string a1_1, .string a1_2, .string a1_3, .int .i64 a1_4] 86 (0, 0)) (zbk zpas)) : zpav ≠ zpat)); have n12_ := zpao ((by rw [hg]; exact zpan (blk_lt (g := zpav) (o := .cells #[.int .i64 a1_0, .string a1_1, .string a1_2, .string a1_3, .int .i64 a1_4] 86 (0, 0)) (zbk zpas)) : zpat ≠ zpav)); clear HO0_0; clear HO0_1; clear HO0_4; clear zpap; clear zpas; clear HB; have HO0_0 := n0_; have HO0_1 := n1_; have HO0_4 := n2_; have zpap := n3_; have zpas := n4_; have HB := n5_; have zpau := n6_; have zpcx := n7_; have zpbb := n8_; have zpbn := n9_; have zpbg := n10_; have zpbq := n11_; have zpbr := n12_; clear n0_ n1_ n2_ n3_ n4_ n5_ n6_ n7_ n8_ n9_ n10_ n11_ n12_; clear hb hbox hg; have hnb88 := zpbm.out; have hnc88 := zpbi.out; have hnb89 := zpbn.out; have hnc89 := zpbg.out; have zphv : w87.cell? ⟨zpar, 0, none⟩ = some (.slice A0_0 l0_0.length c0_0) := (zpak zpap.out 0).trans rfl; have zphw : w87.cell? ⟨zpar, 1, none⟩ = some (.slice A0_1 l0_1.length c0_1) := (zpak zpap.out 1).trans rfl; have zphx : w87.cell? ⟨zpar, 2, none⟩ = some (.int .i64 a0_2) := (zpak zpap.out 2).trans rfl; have zphy : w87.cell? ⟨zpar, 3, none⟩ = some (.bool a0_3) := (zpak zpap.out 3).trans rfl; have zphz : w87.cell? ⟨zpar, 4, none⟩ = some (.slice A0_4 l0_4.length c0_4) := (zpak zpap.out 4).trans rfl; have zpia : w87.cell? ⟨zpar, 5, none⟩ = some (.int .i64 a0_5) := (zpak zpap.out 5).trans rfl; have zpib := zpal zpap.out 0; have zpic := zpal zpap.out 1; have zpid := zpal zpap.out 2; have zpie := zpal zpap.out 3; have zpif := zpal zpap.out 4; have zpig := zpal zpap.out 5; have hnb91 := zpbq.out; have hnc91 := zpbr.out; have zpih : w87.cell? ⟨zpav, 0, none⟩ = some (.int .i64 a1_0) := (zpak zpas.out 0).trans rfl; have zpii : w87.cell? ⟨zpav, 1, none⟩ = some (.string a1_1) := (zpak zpas.out 1).trans rfl; have zpij : w87.cell? ⟨zpav, 2, none⟩ = some (.string a1_2) := (zpak zpas.out 2).trans rfl; have zpik : w87.cell? ⟨zpav, 3, none⟩ = some (.string a1_3) := (zpak zpas.out 3).trans rfl; have zpil : w87.cell? ⟨zpav, 4, none⟩ = some (.int .i64 a1_4) := (zpak zpas.out 4).trans rfl; have zpim := zpal zpas.out 0; have zpin := zpal zpas.out 1; have zpio := zpal zpas.out 2; have zpip := zpal zpas.out 3; have zpiq := zpal zpas.out 4) | ((with_reducible refine gate_callee (f := 57) rfl ?_); refine goesL_ (some 12) rfl rfl Try.func57 (by kernel_rfl) rfl #[.agg #[.slice A0_0 l0_0.length c0_0, .slice A0_1 l0_1.length c0_1, .int .i64 a0_2, .bool a0_3, .slice A0_4 l0_4.length c0_4, .int .i64 a0_5], .agg #[.int .i64 a1_0, .string a1_1, .string a1_2, .string a1_3, .int .i64 a1_4]] rfl (by (try simp only [List.map_toArray, List.map_cons, List.map_nil]); first | done | rfl) ?_; (with_reducible refine (stowageref04_Disk_Wrong.calls k _ _ l0_0 _ _ l0_1 a0_2 a0_3 _ _ l0_4 a0_5 a1_0 a1_1 a1_2 a1_3 a1_4 t317 _ ?side1 ?side2 ?side3 ?side4 ?side5 ?side6 A3.out).mono ?_); (case side1 => repeat (first | exact (Kd.V_reads' HO0_0.out).2.2 | (with_reducible refine Kd.C_alloc ?_ _) | (with_reducible refine Kd.C_drewN ?_ _) | (with_reducible refine Kd.C_drew ?_))); (case side2 => exact (Kd.V_reads' HO0_0.out).2.1); (case side3 => repeat (first | exact (Kd.V_reads' HO0_1.out).2.2 | (with_reducible refine Kd.C_alloc ?_ _) | (with_reducible refine Kd.C_drewN ?_ _) | (with_reducible refine Kd.C_drew ?_))); (case side4 => exact (Kd.V_reads' HO0_1.out).2.1); (case side5 => repeat (first | exact (Kd.V_reads' HO0_4.out).2.2 | (with_reducible refine Kd.C_alloc ?_ _) | (with_reducible refine Kd.C_drewN ?_ _) | (with_reducible refine Kd.C_drew ?_))); (case side6 => exact (Kd.V_reads' HO0_4.out).2.1); rintro e w93 ⟨rfl, hb⟩; refine ⟨_, rfl, ?_⟩; have n0_ := zpao (Kd.V_below (zvk HO0_0) hb); have n1_ := zpao (Kd.V_below (zvk HO0_1) hb); have n2_ := zpao (Kd.V_below (zvk HO0_4) hb); have n3_ := zpao (blk_below (g := zpar) (o := .cells #[.slice A0_0 l0_0.length c0_0, .slice A0_1 l0_1.length c0_1, .int .i64 a0_2, .bool a0_3, .slice A0_4 l0_4.length c0_4, .int .i64 a0_5] 57 (0, 0)) (zbk zpap) hb); have n4_ := zpao (blk_below (g := zpav) (o := .cells #[.int .i64 a1_0, .string a1_1, .string a1_2, .string a1_3, .int .i64 a1_4] 86 (0, 0)) (zbk zpas) hb); have n5_ := zpao (blk_below (g := zpat) (o := .cells #[.slice none 0 0, .slice none 0 0, .int .i64 0, .bool false, .slice none 0 0, .int .i64 0] 57 (0, 0)) (zbk zpau) hb); have n6_ := zpao (below_step (by repeat (first | (with_reducible first | exact HB.out | apply zpaj | apply zpah | apply zpai | refine zpag ?_ zpay.out | refine zpag ?_ zpaz.out | refine zpag ?_ zpbb.out) | exact HB.out)) hb); clear HO0_0; clear HO0_1; clear HO0_4; clear zpap; clear zpas; clear zpau; clear HB; have HO0_0 := n0_; have HO0_1 := n1_; have HO0_4 := n2_; have zpap := n3_; have zpas := n4_; have zpau := n5_; have HB := n6_; clear n0_ n1_ n2_ n3_ n4_ n5_ n6_; (try clear hb); (try clear hk); (try clear hi); have zpir : w93.cell? ⟨zpar, 0, none⟩ = some (.slice A0_0 l0_0.length c0_0) := (zpak zpap.out 0).trans rfl; have zpis : w93.cell? ⟨zpar, 1, none⟩ = some (.slice A0_1 l0_1.length c0_1) := (zpak zpap.out 1).trans rfl; have zpit : w93.cell? ⟨zpar, 2, none⟩ = some (.int .i64 a0_2) := (zpak zpap.out 2).trans rfl; have zpiu : w93.cell? ⟨zpar, 3, none⟩ = some (.bool a0_3) := (zpak zpap.out 3).trans rfl; have zpiv : w93.cell? ⟨zpar, 4, none⟩ = some (.slice A0_4 l0_4.length c0_4) := (zpak zpap.out 4).trans rfl; have zpiw : w93.cell? ⟨zpar, 5, none⟩ = some (.int .i64 a0_5) := (zpak zpap.out 5).trans rfl; have zpix := zpal zpap.out 0; have zpiy := zpal zpap.out 1; have zpiz := zpal zpap.out 2; have zpja := zpal zpap.out 3; have zpjb := zpal zpap.out 4; have zpjc := zpal zpap.out 5; have zpjd : w93.cell? ⟨zpat, 0, none⟩ = some (.slice none 0 0) := (zpak zpau.out 0).trans rfl; have zpje : w93.cell? ⟨zpat, 1, none⟩ = some (.slice none 0 0) := (zpak zpau.out 1).trans rfl; have zpjf : w93.cell? ⟨zpat, 2, none⟩ = some (.int .i64 0) := (zpak zpau.out 2).trans rfl; have zpjg : w93.cell? ⟨zpat, 3, none⟩ = some (.bool false) := (zpak zpau.out 3).trans rfl; have zpjh : w93.cell? ⟨zpat, 4, none⟩ = some (.slice none 0 0) := (zpak zpau.out 4).trans rfl; have zpji : w93.cell? ⟨zpat, 5, none⟩ = some (.int .i64 0) := (zpak zpau.out 5).trans rfl; have zpjj := zpal zpau.out 0; have zpjk := zpal zpau.out 1; have zpjl := zpal zpau.out 2; have zpjm := zpal zpau.out 3; have zpjn := zpal zpau.out 4; have zpjo := zpal zpau.out 5))
  refine bodyPost_ret (results_ct rfl _ _ zpat 57 #[.slice A0_0 l0_0.length c0_0, .slice A0_1 l0_1.length c0_1, .int .i64 a0_2, .bool a0_3, .slice A0_4 l0_4.length c0_4, .int .i64 a0_5] (0, 0) _ rfl (by (with_reducible repeat (first | refine zpad ?_ _ | refine zpaf ?_ | refine zpae ?_ _)); refine blk_put (cs := #[.slice A0_0 l0_0.length c0_0, .slice A0_1 l0_1.length c0_1, .int .i64 a0_2, .bool a0_3, .slice A0_4 l0_4.length c0_4, .int .i64 0]) ?_ 5 _ rfl; (with_reducible repeat (first | refine zpad ?_ _ | refine zpaf ?_ | refine zpae ?_ _)); refine blk_put (cs := #[.slice A0_0 l0_0.length c0_0, .slice A0_1 l0_1.length c0_1, .int .i64 a0_2, .bool a0_3, .slice none 0 0, .int .i64 0]) ?_ 4 _ rfl; (with_reducible repeat (first | refine zpad ?_ _ | refine zpaf ?_ | refine zpae ?_ _)); refine blk_put (cs := #[.slice A0_0 l0_0.length c0_0, .slice A0_1 l0_1.length c0_1, .int .i64 a0_2, .bool false, .slice none 0 0, .int .i64 0]) ?_ 3 _ rfl; (with_reducible repeat (first | refine zpad ?_ _ | refine zpaf ?_ | refine zpae ?_ _)); refine blk_put (cs := #[.slice A0_0 l0_0.length c0_0, .slice A0_1 l0_1.length c0_1, .int .i64 0, .bool false, .slice none 0 0, .int .i64 0]) ?_ 2 _ rfl; (with_reducible repeat (first | refine zpad ?_ _ | refine zpaf ?_ | refine zpae ?_ _)); refine blk_put (cs := #[.slice A0_0 l0_0.length c0_0, .slice none 0 0, .int .i64 0, .bool false, .slice none 0 0, .int .i64 0]) ?_ 1 _ rfl; (with_reducible repeat (first | refine zpad ?_ _ | refine zpaf ?_ | refine zpae ?_ _)); refine blk_put (cs := #[.slice none 0 0, .slice none 0 0, .int .i64 0, .bool false, .slice none 0 0, .int .i64 0]) ?_ 0 _ rfl; exact zbk zpau) Try.underlying57 rfl (by kernel_rfl)) rfl ?_
  exact ⟨_, _, _, by first | rfl | (simp [errW_none, errW_some] <;> rfl) | (simp [*, errW_none, errW_some] <;> rfl), by (with_reducible repeat (first | apply Kd.V_alloc | apply Kd.V_drewN | apply Kd.V_drew)); exact Kd.V_mono (Kd.V_far (p := ⟨zpat, 5, none⟩) (Kd.V_far (p := ⟨zpat, 4, none⟩) (Kd.V_far (p := ⟨zpat, 3, none⟩) (Kd.V_far (p := ⟨zpat, 2, none⟩) (Kd.V_far (p := ⟨zpat, 1, none⟩) (Kd.V_far (p := ⟨zpat, 0, none⟩) (Kd.V_mono HO0_0.out (fun k_ hk => (⟨hk, hk.2⟩ : _ ∧ k_ ≠ zpat))) (fun _ hk => hk.2) (.slice A0_0 l0_0.length c0_0)) (fun _ hk => hk.2) (.slice A0_1 l0_1.length c0_1)) (fun _ hk => hk.2) (.int .i64 a0_2)) (fun _ hk => hk.2) (.bool a0_3)) (fun _ hk => hk.2) (.slice A0_4 l0_4.length c0_4)) (fun _ hk => hk.2) (.int .i64 a0_5)) (fun _ hk => hk.1.1.1.1), by (with_reducible repeat (first | apply Kd.V_alloc | apply Kd.V_drewN | apply Kd.V_drew)); exact Kd.V_mono (Kd.V_far (p := ⟨zpat, 5, none⟩) (Kd.V_far (p := ⟨zpat, 4, none⟩) (Kd.V_far (p := ⟨zpat, 3, none⟩) (Kd.V_far (p := ⟨zpat, 2, none⟩) (Kd.V_far (p := ⟨zpat, 1, none⟩) (Kd.V_far (p := ⟨zpat, 0, none⟩) (Kd.V_mono HO0_1.out (fun k_ hk => (⟨hk, hk.2⟩ : _ ∧ k_ ≠ zpat))) (fun _ hk => hk.2) (.slice A0_0 l0_0.length c0_0)) (fun _ hk => hk.2) (.slice A0_1 l0_1.length c0_1)) (fun _ hk => hk.2) (.int .i64 a0_2)) (fun _ hk => hk.2) (.bool a0_3)) (fun _ hk => hk.2) (.slice A0_4 l0_4.length c0_4)) (fun _ hk => hk.2) (.int .i64 a0_5)) (fun _ hk => hk.1.1.1.1), by (with_reducible repeat (first | apply Kd.V_alloc | apply Kd.V_drewN | apply Kd.V_drew)); exact Kd.V_mono (Kd.V_far (p := ⟨zpat, 5, none⟩) (Kd.V_far (p := ⟨zpat, 4, none⟩) (Kd.V_far (p := ⟨zpat, 3, none⟩) (Kd.V_far (p := ⟨zpat, 2, none⟩) (Kd.V_far (p := ⟨zpat, 1, none⟩) (Kd.V_far (p := ⟨zpat, 0, none⟩) (Kd.V_mono HO0_4.out (fun k_ hk => (⟨hk, hk.2⟩ : _ ∧ k_ ≠ zpat))) (fun _ hk => hk.2) (.slice A0_0 l0_0.length c0_0)) (fun _ hk => hk.2) (.slice A0_1 l0_1.length c0_1)) (fun _ hk => hk.2) (.int .i64 a0_2)) (fun _ hk => hk.2) (.bool a0_3)) (fun _ hk => hk.2) (.slice A0_4 l0_4.length c0_4)) (fun _ hk => hk.2) (.int .i64 a0_5)) (fun _ hk => hk.1.1.1.1), by repeat (first | (with_reducible first | exact HB.out | apply zpaj | apply zpah | apply zpai | refine zpag ?_ zpay.out | refine zpag ?_ zpaz.out | refine zpag ?_ zpbb.out) | exact HB.out)⟩

end Go.Proofs.Ytabngibognlmoaa.Q