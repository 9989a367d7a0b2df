

/- Written by a program of this session (wip/patch_print.py over the kit's print): functions of the given program as plain Lean functions, and that each call does what its function says, under no further conditions. -/
import Derived.Test.YtmpnaaegahjfkaaQx0
import Derived.Test.YtmpnaaegahjfkaaQx9
namespace Go.Proofs.Ytmpnaaegahjfkaa.Q
open Go.RowKit Go.Proofs.YtmpnaaegahjfkaaW.PrintWords Go.Proofs.YtmpnaaegahjfkaaW.PrintLast Go.Proofs.YtmpnaaegahjfkaaW.PrintMore
attribute [local go_sem] max2_int min2_int max_two min_two max_three min_three max_four min_four   -- for this text's walks alone
set_option linter.unusedVariables false
set_option linter.unusedSimpArgs false
attribute [local go_sem] xor_ones_u8 xor_ones_u16 xor_ones_u32 xor_ones_u64 cell_twice frozen_twice
abbrev zalaa := @List.setIfInBounds_toArray
abbrev zalab := @List.set_cons_zero
abbrev zalac := @List.set_cons_succ
abbrev zalad := @World.block_lt_of_cell?
abbrev zalae := @pw_below_drewN
abbrev zalaf := @below_drew1
abbrev zalag := @below_alloc
abbrev zalah := @Aside0.mk
abbrev zalsq0 : Array Bool := #[false, false, false, false, false, false, false, false, false, false, false, false, false, false, false, false, false, false, false, false, false, false, false, false]
abbrev zalsq1 : Array Bool := #[true, false, false, false, false, false, false, false, false, false, false, false, false, false, false, false, false, false, false, false, false, false, false, false]
abbrev zalsq2 : Array Bool := #[true, true, false, false, false, false, false, false, false, false, false, false, false, false, false, false, false, false, false, false, false, false, false, false]
abbrev zalsq3 : Array Bool := #[true, true, true, false, false, false, false, false, false, false, false, false, false, false, false, false, false, false, false, false, false, false, false, false]
abbrev zalsq4 : Array Bool := #[true, true, true, true, false, false, false, false, false, false, false, false, false, false, false, false, false, false, false, false, false, false, false, false]
abbrev zalsq5 : Array Bool := #[true, true, true, true, true, false, false, false, false, false, false, false, false, false, false, false, false, false, false, false, false, false, false, false]
abbrev zalsq6 : Array Bool := #[true, true, true, true, true, true, false, false, false, false, false, false, false, false, false, false, false, false, false, false, false, false, false, false]
abbrev zalsq7 : Array Bool := #[true, true, true, true, true, true, true, false, false, false, false, false, false, false, false, false, false, false, false, false, false, false, false, false]
abbrev zalsq8 : Array Bool := #[true, true, true, true, true, true, true, true, false, false, false, false, false, false, false, false, false, false, false, false, false, false, false, false]
abbrev zalsq9 : Array Bool := #[true, true, true, true, true, true, true, true, true, false, false, false, false, false, false, false, false, false, false, false, false, false, false, false]
abbrev zalsq10 : Array Bool := #[true, true, true, true, true, true, true, true, true, true, false, false, false, false, false, false, false, false, false, false, false, false, false, false]
abbrev zalsq11 : Array Bool := #[true, true, true, true, true, true, true, true, true, true, true, false, false, false, false, false, false, false, false, false, false, false, false, false]
abbrev zalsq12 : Array Bool := #[true, true, true, true, true, true, true, true, true, true, true, true, false, false, false, false, false, false, false, false, false, false, false, false]
abbrev zalsq13 : Array Bool := #[true, true, true, true, true, true, true, true, true, true, true, true, true, false, false, false, false, false, false, false, false, false, false, false]
abbrev zalsq14 : Array Bool := #[true, true, true, true, true, true, true, true, true, true, true, true, true, true, false, false, false, false, false, false, false, false, false, false]
abbrev zalsq15 : Array Bool := #[true, true, true, true, true, true, true, true, true, true, true, true, true, true, true, false, false, false, false, false, false, false, false, false]
abbrev zalsq16 : Array Bool := #[true, true, true, true, true, true, true, true, true, true, true, true, true, true, true, false, true, false, false, false, false, false, false, false]
abbrev zalsq17 : Array Bool := #[true, true, true, true, true, true, true, true, true, true, true, true, true, true, true, false, true, true, false, false, false, false, false, false]
abbrev zalsq18 : Array Bool := #[true, true, true, true, true, true, true, true, true, true, true, true, true, true, true, false, true, true, true, false, false, false, false, false]
abbrev zalsq19 : Array Bool := #[true, true, true, true, true, true, true, true, true, true, true, true, true, true, true, false, true, true, true, true, false, false, false, false]
abbrev zalsq20 : Array Bool := #[true, true, true, true, true, true, true, true, true, true, true, true, true, true, true, true, true, true, true, true, false, false, false, false]
abbrev zalsq21 : Array Bool := #[true, true, true, true, true, true, true, true, true, true, true, true, true, true, true, true, true, true, true, true, true, false, false, false]
abbrev zalsq22 : Array Bool := #[true, true, true, true, true, true, true, true, true, true, true, true, true, true, true, true, true, true, true, true, true, true, false, false]
abbrev zalsq23 : Array Bool := #[true, true, true, true, true, true, true, true, true, true, true, true, true, true, true, true, true, true, true, true, true, true, true, false]
abbrev zalsq24 : Array Bool := #[true, true, true, true, true, true, true, true, true, true, true, true, true, true, true, true, true, true, true, true, true, true, true, true]
abbrev zalsq25 : Array Bool := #[true, true, true, true, true, true, true, true, true, true, true, true, true, true, true, true, false, false, false, false, false, false, false, false]
abbrev zalsq26 : Array Bool := #[true, true, true, true, true, true, true, true, true, true, true, true, true, true, true, true, true, false, false, false, false, false, false, false]
abbrev zalsq27 : Array Bool := #[true, true, true, true, true, true, true, true, true, true, true, true, true, true, true, true, true, true, false, false, false, false, false, false]
abbrev zalsq28 : Array Bool := #[true, true, true, true, true, true, true, true, true, true, true, true, true, true, true, true, true, true, true, false, false, false, false, false]
/-! ### stowageref13_May: function 40 -/
def stowageref13_May.l0 : Nat → List (S36) → Int → Option (Bool)
 | 0, _, _ => none
 | k + 1, x0, x3 => if x3 < (x0.length : Int) then (if 0 ≤ x3 then ((stowageref13_Check.f k ((rd_T36 x0 x3).f0) ((rd_T36 x0 x3).f1) ((rd_T36 x0 x3).f2) ((rd_T36 x0 x3).f3) ((rd_T36 x0 x3).f4)).bind fun t242 => (if t242 = 0 then (if x3 > 0 then (if 0 ≤ (wrap64 (x3 - 1)) then (if (wrap64 (x3 - 1)) < (x0.length : Int) then (if ((rd_T36 x0 (wrap64 (x3 - 1))).f0) ≤ ((rd_T36 x0 x3).f0) then (some false) else (stowageref13_May.l0 k x0 (wrap64 (x3 + 1)))) else (none)) else (none)) else (stowageref13_May.l0 k x0 (wrap64 (x3 + 1)))) else (some false))) else (none)) else (some (decide ((x0.length : Int) ≤ 32)))
def stowageref13_May.f (k : Nat) (l0 : List (S36)) : Option (Bool) := stowageref13_May.l0 k l0 0
def stowageref13_May.T4 : Bool × List (List Nat × List Nat) := (true, [([], []), ([], []), ([0, 1], [0, 1]), ([2], [2]), ([3], [3]), ([4], [4]), ([5, 4], [5]), ([6], [6]), ([7, 6], [6, 7]), ([8, 6, 6], [6, 8]), ([9], [9]), ([9], [9]), ([11, 9], [9, 11]), ([10, 12, 9], [9, 10, 12]), ([13, 9], [9, 13]), ([14, 9], [9, 14]), ([9], [9]), ([9], [9]), ([16, 17, 9], [9, 16, 17]), ([18, 9], [9, 18]), ([19, 9], [9, 19]), ([15, 20, 9], [9, 15, 20]), ([9, 21, 6], [6, 9, 21]), ([6, 22], [6, 22])])
def stowageref13_May.B4 : List Nat := [0, 0, 3, 7, 15, 31, 63, 127, 255, 511, 1023, 1023, 3071, 8191, 16383, 32767, 1023, 1023, 197631, 459775, 984063, 2097151, 4194303, 8388607]
theorem stowageref13_May.tab4 : rtab .any (opsOf Try.f40 4) = stowageref13_May.T4 := by kernel_rfl
theorem stowageref13_May.bits4 : waitsOk stowageref13_May.T4.2 stowageref13_May.B4 = true := by kernel_rfl
set_option maxHeartbeats 8000000 in
set_option maxRecDepth 100000 in
theorem stowageref13_May.calls (k : Nat) (A0 : Option Addr) (c0 : Nat) (l0 : List (S36)) (r : Bool) (w : World) (hr0 : Kd.C k36 w A0 l0.length l0) (hc0 : l0.length ≤ c0) (h : stowageref13_May.f k l0 = some r) :
  Calls Try.prog 40 #[.slice A0 l0.length c0] w fun e w' => e = .returned (.bool r) ∧ Below w.heap.size w w' := by
 have hu36 := Try.underlying36
 have HR0 := zalah hr0
 have HC0 := zalah hc0
 clear hr0 hc0
 have HB := zalah (Below.refl w.heap.size w)
 have H : (stowageref13_May.l0 k l0 0) = some r := h
 clear h
 have H' := zalah H
 clear H
 go_enter Try.func40, Try.ntmps40
 go_wp2
 go_loopg [3] k (fun kq v3 w' => ∃ (zalai : Int), v3 = .int .i64 zalai ∧ Aside0 (stowageref13_May.l0 kq l0 zalai = some r) ∧ Aside0 (kq ≤ k) ∧ Aside0 (Below w.heap.size w w'))
 case atStart => exact ⟨(0), (by first | rfl | (simp; done) | (simp [*]; done)), H', ⟨Nat.le_refl _⟩, ⟨zh0 HB⟩⟩
 case round =>
  clear H'
  obtain ⟨zalai, rfl, HA, HK1, HB⟩ := hrel
  cases gk with
  | zero => exact absurd HA.out (by simp [stowageref13_May.l0])
  | succ k1 =>
   have H := HA.out
   clear HA
   simp only [stowageref13_May.l0] at H
   by_cases c2 : zalai < (l0.length : Int)
   ·rw [if_pos c2] at H
    have c2b0 : decide (zalai < (l0.length : Int)) = true := decide_eq_true c2
    clear c2
    by_cases c3 : 0 ≤ zalai
    ·rw [if_pos c3] at H
     have c3b0 : decide (0 ≤ zalai) = true := decide_eq_true c3
     clear c3
     replace H := Option.bind_eq_some_iff.mp H
     obtain ⟨t242, A40, H⟩ := H
     replace H : (if t242 = 0 then (if zalai > 0 then (if 0 ≤ (wrap64 (zalai - 1)) then (if (wrap64 (zalai - 1)) < (l0.length : Int) then (if ((rd_T36 l0 (wrap64 (zalai - 1))).f0) ≤ ((rd_T36 l0 zalai).f0) then (some false) else (stowageref13_May.l0 k1 l0 (wrap64 (zalai + 1)))) else (none)) else (none)) else (stowageref13_May.l0 k1 l0 (wrap64 (zalai + 1)))) else (some false)) = some r := H
     have A4 := zalah A40
     clear A40
     by_cases c5 : t242 = 0
     ·rw [if_pos c5] at H
      have c5b0 : (t242 == 0) = true := beq_iff_eq.mpr c5
      have c5b1 : (t242 != 0) = false := bne_eq_false_iff_eq.mpr c5
      clear c5
      by_cases c6 : zalai > 0
      ·rw [if_pos c6] at H
       have c6b0 : decide (0 < zalai) = true := decide_eq_true c6
       clear c6
       obtain ⟨ji7, hji7⟩ : ∃ j_ : Int, (wrap64 (zalai - 1)) = j_ := ⟨_, rfl⟩
       replace H : (if 0 ≤ (ji7) then (if (ji7) < (l0.length : Int) then (if ((rd_T36 l0 (ji7)).f0) ≤ ((rd_T36 l0 zalai).f0) then (some false) else (stowageref13_May.l0 k1 l0 (wrap64 (zalai + 1)))) else (none)) else (none)) = some r := by first | (rw [hji7] at H; exact H) | (simp only [hji7] at H ⊢; exact H)
       (try rw [hji7] at A4)
       have hji7w : (IntKind.i64.wrap (zalai - 1)) = ji7 := (i64_w _).trans hji7
       by_cases c8 : 0 ≤ (ji7)
       ·rw [if_pos c8] at H
        have c8b0 : decide (0 ≤ (ji7)) = true := decide_eq_true c8
        clear c8
        by_cases c9 : (ji7) < (l0.length : Int)
        ·rw [if_pos c9] at H
         have c9b0 : decide ((ji7) < (l0.length : Int)) = true := decide_eq_true c9
         clear c9
         by_cases c10 : ((rd_T36 l0 (ji7)).f0) ≤ ((rd_T36 l0 zalai).f0)
         ·rw [if_pos c10] at H
          have c10b0 : decide (((rd_T36 l0 (ji7)).f0) ≤ ((rd_T36 l0 zalai).f0)) = true := decide_eq_true c10
          clear c10
          obtain rfl := Option.some.inj H
          try go_wp2
          have n0_ := zalah (zalaf HB.out)
          clear HB
          have HB := n0_
          clear n0_
          have p241 : 0 ≤ (zalai : Int) := of_decide_eq_true (by first | (with_reducible assumption) | assumption)
          have q241 : zalai < (l0.length : Int) := of_decide_eq_true (by first | (with_reducible assumption) | assumption)
          obtain ⟨ad241, A241_4, c241_4, e241, hx241_0, hx241_1, hx241_2, hx241_3, hx241_4, hl241_4, hi241_4⟩ := at_T36 HR0.out zalai p241 q241
          have hw241_4 := hx241_4
          have hw241_3 := hx241_3
          have hw241_2 := hx241_2
          have hw241_1 := hx241_1
          have hw241_0 := hx241_0
          cases e241
          replace hx241_0 := (HB.out.cell (zalad w _ hx241_0)).trans hx241_0
          replace hx241_1 := (HB.out.cell (zalad w _ hx241_1)).trans hx241_1
          replace hx241_2 := (HB.out.cell (zalad w _ hx241_2)).trans hx241_2
          replace hx241_3 := (HB.out.cell (zalad w _ hx241_3)).trans hx241_3
          replace hx241_4 := (HB.out.cell (zalad w _ hx241_4)).trans hx241_4
          have HR241_4 := zalah hi241_4
          have HC241_4 := zalah hl241_4
          clear hi241_4 hl241_4
          replace p241 := eq_true p241
          replace q241 := eq_true q241
          have p243 : 0 ≤ ((ji7) : Int) := of_decide_eq_true (by first | (with_reducible assumption) | assumption)
          have q243 : (ji7) < (l0.length : Int) := of_decide_eq_true (by first | (with_reducible assumption) | assumption)
          obtain ⟨ad243, A243_4, c243_4, e243, hx243_0, hx243_1, hx243_2, hx243_3, hx243_4, hl243_4, hi243_4⟩ := at_T36 HR0.out (ji7) p243 q243
          have hw243_4 := hx243_4
          have hw243_3 := hx243_3
          have hw243_2 := hx243_2
          have hw243_1 := hx243_1
          have hw243_0 := hx243_0
          obtain rfl : ad241 = ad243 := (by injection e243)
          replace hx243_0 := (HB.out.cell (zalad w _ hx243_0)).trans hx243_0
          replace hx243_1 := (HB.out.cell (zalad w _ hx243_1)).trans hx243_1
          replace hx243_2 := (HB.out.cell (zalad w _ hx243_2)).trans hx243_2
          replace hx243_3 := (HB.out.cell (zalad w _ hx243_3)).trans hx243_3
          replace hx243_4 := (HB.out.cell (zalad w _ hx243_4)).trans hx243_4
          have HR243_4 := zalah hi243_4
          have HC243_4 := zalah hl243_4
          clear hi243_4 hl243_4
          replace p243 := eq_true p243
          replace q243 := eq_true q243
          have p244 : 0 ≤ (zalai : Int) := of_decide_eq_true (by first | (with_reducible assumption) | assumption)
          have q244 : zalai < (l0.length : Int) := of_decide_eq_true (by first | (with_reducible assumption) | assumption)
          obtain ⟨ad244, A244_4, c244_4, e244, hx244_0, hx244_1, hx244_2, hx244_3, hx244_4, hl244_4, hi244_4⟩ := at_T36 HR0.out zalai p244 q244
          have hw244_4 := hx244_4
          have hw244_3 := hx244_3
          have hw244_2 := hx244_2
          have hw244_1 := hx244_1
          have hw244_0 := hx244_0
          obtain rfl : ad241 = ad244 := (by injection e244)
          replace hx244_0 := (HB.out.cell (zalad w _ hx244_0)).trans hx244_0
          replace hx244_1 := (HB.out.cell (zalad w _ hx244_1)).trans hx244_1
          replace hx244_2 := (HB.out.cell (zalad w _ hx244_2)).trans hx244_2
          replace hx244_3 := (HB.out.cell (zalad w _ hx244_3)).trans hx244_3
          replace hx244_4 := (HB.out.cell (zalad w _ hx244_4)).trans hx244_4
          have HR244_4 := zalah hi244_4
          have HC244_4 := zalah hl244_4
          clear hi244_4 hl244_4
          replace p244 := eq_true p244
          replace q244 := eq_true q244
          refine start_ (n := 24) (S := fun w' => w'.cell? (ad241.add ((zalai).toNat * 5)) = some (.int .i64 ((rd_T36 l0 zalai).f0)) ∧ w'.cell? ⟨(ad241.add ((zalai).toNat * 5)).block, (ad241.add ((zalai).toNat * 5)).off + 1, none⟩ = some (.bool ((rd_T36 l0 zalai).f1)) ∧ w'.cell? ⟨(ad241.add ((zalai).toNat * 5)).block, (ad241.add ((zalai).toNat * 5)).off + 2, none⟩ = some (.int .i64 ((rd_T36 l0 zalai).f2)) ∧ w'.cell? ⟨(ad241.add ((zalai).toNat * 5)).block, (ad241.add ((zalai).toNat * 5)).off + 3, none⟩ = some (.string ((rd_T36 l0 zalai).f3)) ∧ w'.cell? ⟨(ad241.add ((zalai).toNat * 5)).block, (ad241.add ((zalai).toNat * 5)).off + 4, none⟩ = some (.slice A241_4 ((rd_T36 l0 zalai).f4).length c241_4) ∧ w'.cell? (ad241.add (((ji7)).toNat * 5)) = some (.int .i64 ((rd_T36 l0 (ji7)).f0)) ∧ w'.cell? ⟨(ad241.add (((ji7)).toNat * 5)).block, (ad241.add (((ji7)).toNat * 5)).off + 1, none⟩ = some (.bool ((rd_T36 l0 (ji7)).f1)) ∧ w'.cell? ⟨(ad241.add (((ji7)).toNat * 5)).block, (ad241.add (((ji7)).toNat * 5)).off + 2, none⟩ = some (.int .i64 ((rd_T36 l0 (ji7)).f2)) ∧ w'.cell? ⟨(ad241.add (((ji7)).toNat * 5)).block, (ad241.add (((ji7)).toNat * 5)).off + 3, none⟩ = some (.string ((rd_T36 l0 (ji7)).f3)) ∧ w'.cell? ⟨(ad241.add (((ji7)).toNat * 5)).block, (ad241.add (((ji7)).toNat * 5)).off + 4, none⟩ = some (.slice A243_4 ((rd_T36 l0 (ji7)).f4).length c243_4) ∧ w'.cell? (ad241.add ((zalai).toNat * 5)) = some (.int .i64 ((rd_T36 l0 zalai).f0)) ∧ w'.cell? ⟨(ad241.add ((zalai).toNat * 5)).block, (ad241.add ((zalai).toNat * 5)).off + 1, none⟩ = some (.bool ((rd_T36 l0 zalai).f1)) ∧ w'.cell? ⟨(ad241.add ((zalai).toNat * 5)).block, (ad241.add ((zalai).toNat * 5)).off + 2, none⟩ = some (.int .i64 ((rd_T36 l0 zalai).f2)) ∧ w'.cell? ⟨(ad241.add ((zalai).toNat * 5)).block, (ad241.add ((zalai).toNat * 5)).off + 3, none⟩ = some (.string ((rd_T36 l0 zalai).f3)) ∧ w'.cell? ⟨(ad241.add ((zalai).toNat * 5)).block, (ad241.add ((zalai).toNat * 5)).off + 4, none⟩ = some (.slice A244_4 ((rd_T36 l0 zalai).f4).length c244_4)) (ds := []) zalsq0 (by kernel_rfl) rfl rfl ⟨((HB.out.cell (zalad w _ hw241_0)).trans hw241_0), ((HB.out.cell (zalad w _ hw241_1)).trans hw241_1), ((HB.out.cell (zalad w _ hw241_2)).trans hw241_2), ((HB.out.cell (zalad w _ hw241_3)).trans hw241_3), ((HB.out.cell (zalad w _ hw241_4)).trans hw241_4), ((HB.out.cell (zalad w _ hw243_0)).trans hw243_0), ((HB.out.cell (zalad w _ hw243_1)).trans hw243_1), ((HB.out.cell (zalad w _ hw243_2)).trans hw243_2), ((HB.out.cell (zalad w _ hw243_3)).trans hw243_3), ((HB.out.cell (zalad w _ hw243_4)).trans hw243_4), ((HB.out.cell (zalad w _ hw244_0)).trans hw244_0), ((HB.out.cell (zalad w _ hw244_1)).trans hw244_1), ((HB.out.cell (zalad w _ hw244_2)).trans hw244_2), ((HB.out.cell (zalad w _ hw244_3)).trans hw244_3), ((HB.out.cell (zalad w _ hw244_4)).trans hw244_4)⟩ (fun hHeld => ?_); refine with_tabW stowageref13_May.tab4 stowageref13_May.bits4 (fun HT_ HW_ => ?_)
          generalize wr.drew = w11 at HB HR241_4 HR243_4 HR244_4 hx241_0 hx241_1 hx241_2 hx241_3 hx241_4 hx243_0 hx243_1 hx243_2 hx243_3 hx243_4 hx244_0 hx244_1 hx244_2 hx244_3 hx244_4 hHeld ⊢
          refine pure_ (i := 0) (N := some 10) (v := ?_) (a' := ?_) zalsq1 rfl rfl (any_of HT_.out (by kernel_rfl)) (fun _ _ _ h => h) (Or.inl ⟨by rfl, ?_⟩) ?_ ?_
          rotate_left
          ·intro w'
           go_simp
           with_reducible rfl
          rotate_left
          ·simp only [Act.put, zalaa, zalab, zalac, i64_w, i32_w]
           rfl
          refine pure_ (i := 1) (N := some 11) (v := ?_) (a' := ?_) zalsq2 rfl rfl (any_of HT_.out (by kernel_rfl)) (fun _ _ _ h => h) (Or.inl ⟨by rfl, ?_⟩) ?_ ?_
          rotate_left
          ·intro w'
           go_simp
           with_reducible rfl
          rotate_left
          ·simp only [Act.put, zalaa, zalab, zalac, i64_w, i32_w]
           rfl
          refine pure_ (i := 2) (N := some 12) (v := ?_) (a' := ?_) zalsq3 rfl rfl (any_of HT_.out (by kernel_rfl)) (fun _ _ _ h => h) (Or.inl ⟨by rfl, ?_⟩) ?_ ?_
          rotate_left
          ·intro w'
           go_simp
           with_reducible rfl
          rotate_left
          ·simp only [Act.put, zalaa, zalab, zalac, i64_w, i32_w]
           rfl
          refine take_ (i := 3) (N := some 13) (v := ?_) (a' := ?_) zalsq4 rfl rfl (take_ofW HT_.out HW_.out (by kernel_rfl)) (fun _ _ _ h => h) (Or.inl ⟨by rfl, ?_⟩) hHeld ?_ ?_
          rotate_left
          ·rintro w' ⟨s0, s1, s2, s3, s4, s5, s6, s7, s8, s9, s10, s11, s12, s13, s14⟩
           go_simp
           with_reducible rfl
          rotate_left
          ·simp only [Act.put, zalaa, zalab, zalac, i64_w, i32_w]
           rfl
          refine one_ (i := 4) (N := some 14) zalsq5 rfl rfl (one_of HT_.out (by kernel_rfl)) (by decide) (fun K hK => ?_)
          refine goes_ Try.func14 (by kernel_rfl) rfl #[.agg #[.int .i64 ((rd_T36 l0 zalai).f0), .bool ((rd_T36 l0 zalai).f1), .int .i64 ((rd_T36 l0 zalai).f2), .string ((rd_T36 l0 zalai).f3), .slice A241_4 ((rd_T36 l0 zalai).f4).length c241_4]] (by rfl) rfl rfl (by (try simp only [List.map_toArray, List.map_cons, List.map_nil]); first | done | rfl) ?_
          with_reducible refine (stowageref13_Check.calls k1 ((rd_T36 l0 zalai).f0) ((rd_T36 l0 zalai).f1) ((rd_T36 l0 zalai).f2) ((rd_T36 l0 zalai).f3) _ _ ((rd_T36 l0 zalai).f4) t242 _ ?side1 ?side2 A4.out).mono ?_
          (case side1 => repeat (first | exact (Kd.C_below HR241_4.out HB.out) | (with_reducible refine Kd.C_alloc ?_ _) | (with_reducible refine Kd.C_drewN ?_ _) | (with_reducible refine Kd.C_drew ?_)))
          (case side2 => exact HC241_4.out)
          rintro e w12 ⟨rfl, hb⟩
          refine ⟨_, rfl, ?_⟩
          have n0_ := zalah (below_step (zh0 HB) hb)
          clear HB
          have HB := n0_
          clear n0_
          (try clear hb)
          (try clear hb2)
          (try clear hk)
          (try clear hi)
          refine hK.out _ _ ⟨((HB.out.cell (zalad w _ hw241_0)).trans hw241_0), ((HB.out.cell (zalad w _ hw241_1)).trans hw241_1), ((HB.out.cell (zalad w _ hw241_2)).trans hw241_2), ((HB.out.cell (zalad w _ hw241_3)).trans hw241_3), ((HB.out.cell (zalad w _ hw241_4)).trans hw241_4), ((HB.out.cell (zalad w _ hw243_0)).trans hw243_0), ((HB.out.cell (zalad w _ hw243_1)).trans hw243_1), ((HB.out.cell (zalad w _ hw243_2)).trans hw243_2), ((HB.out.cell (zalad w _ hw243_3)).trans hw243_3), ((HB.out.cell (zalad w _ hw243_4)).trans hw243_4), ((HB.out.cell (zalad w _ hw244_0)).trans hw244_0), ((HB.out.cell (zalad w _ hw244_1)).trans hw244_1), ((HB.out.cell (zalad w _ hw244_2)).trans hw244_2), ((HB.out.cell (zalad w _ hw244_3)).trans hw244_3), ((HB.out.cell (zalad w _ hw244_4)).trans hw244_4)⟩ (fun hHeld => ?_)
          clear hK K
          refine norm_ (a' := ?_) ?_ ?_
          rotate_left
          ·show Act.put _ (some 14) _ = _
           simp only [Act.put, zalaa, zalab, zalac, i64_w, i32_w]
           rfl
          refine pure_ (i := 5) (N := some 15) (v := ?_) (a' := ?_) zalsq6 rfl rfl (any_of HT_.out (by kernel_rfl)) (fun _ _ _ h => h) (Or.inl ⟨by rfl, ?_⟩) ?_ ?_
          rotate_left
          ·intro w'
           go_simp
           with_reducible rfl
          rotate_left
          ·simp only [Act.put, zalaa, zalab, zalac, i64_w, i32_w]
           rfl
          refine pure_ (i := 6) (N := some 16) (v := ?_) (a' := ?_) zalsq7 rfl rfl (any_of HT_.out (by kernel_rfl)) (fun _ _ _ h => h) (Or.inl ⟨by rfl, ?_⟩) ?_ ?_
          rotate_left
          ·intro w'
           go_simp
           with_reducible rfl
          rotate_left
          ·simp only [Act.put, zalaa, zalab, zalac, i64_w, i32_w]
           rfl
          refine pure_ (i := 7) (N := some 17) (v := ?_) (a' := ?_) zalsq8 rfl rfl (any_of HT_.out (by kernel_rfl)) (fun _ _ _ h => h) (Or.inl ⟨by rfl, ?_⟩) ?_ ?_
          rotate_left
          ·intro w'
           go_simp
           with_reducible rfl
          rotate_left
          ·simp only [Act.put, zalaa, zalab, zalac, i64_w, i32_w]
           rfl
          refine pure_ (i := 8) (N := some 18) (v := ?_) (a' := ?_) zalsq9 rfl rfl (any_of HT_.out (by kernel_rfl)) (fun _ _ _ h => h) (Or.inl ⟨by rfl, ?_⟩) ?_ ?_
          rotate_left
          ·intro w'
           go_simp
           with_reducible rfl
          rotate_left
          ·simp only [Act.put, zalaa, zalab, zalac, i64_w, i32_w]
           rfl
          refine pure_ (i := 9) (N := some 19) (v := ?_) (a' := ?_) zalsq10 rfl rfl (any_of HT_.out (by kernel_rfl)) (fun _ _ _ h => h) (Or.inl ⟨by rfl, ?_⟩) ?_ ?_
          rotate_left
          ·intro w'
           go_simp
           with_reducible rfl
          rotate_left
          ·simp only [Act.put, zalaa, zalab, zalac, i64_w, i32_w]
           rfl
          refine pure_ (i := 10) (N := some 20) (v := ?_) (a' := ?_) zalsq11 rfl rfl (any_of HT_.out (by kernel_rfl)) (fun _ _ _ h => h) (Or.inl ⟨by rfl, ?_⟩) ?_ ?_
          rotate_left
          ·intro w'
           go_simp
           with_reducible rfl
          rotate_left
          ·simp only [Act.put, zalaa, zalab, zalac, i64_w, i32_w]
           rfl
          refine pure_ (i := 11) (N := some 21) (v := ?_) (a' := ?_) zalsq12 rfl rfl (any_of HT_.out (by kernel_rfl)) (fun _ _ _ h => h) (Or.inl ⟨by rfl, ?_⟩) ?_ ?_
          rotate_left
          ·intro w'
           go_simp
           with_reducible rfl
          rotate_left
          ·simp only [Act.put, zalaa, zalab, zalac, i64_w, i32_w]
           rfl
          refine pure_ (i := 12) (N := some 22) (v := ?_) (a' := ?_) zalsq13 rfl rfl (any_of HT_.out (by kernel_rfl)) (fun _ _ _ h => h) (Or.inl ⟨by rfl, ?_⟩) ?_ ?_
          rotate_left
          ·intro w'
           go_simp
           with_reducible rfl
          rotate_left
          ·simp only [Act.put, zalaa, zalab, zalac, i64_w, i32_w]
           rfl
          refine pure_ (i := 13) (N := some 23) (v := ?_) (a' := ?_) zalsq14 rfl rfl (any_of HT_.out (by kernel_rfl)) (fun _ _ _ h => h) (Or.inl ⟨by rfl, ?_⟩) ?_ ?_
          rotate_left
          ·intro w'
           go_simp
           with_reducible rfl
          rotate_left
          ·simp only [Act.put, zalaa, zalab, zalac, i64_w, i32_w]
           rfl
          refine pure_ (i := 14) (N := some 24) (v := ?_) (a' := ?_) zalsq15 rfl rfl (any_of HT_.out (by kernel_rfl)) (fun _ _ _ h => h) (Or.inl ⟨by rfl, ?_⟩) ?_ ?_
          rotate_left
          ·intro w'
           go_simp
           with_reducible rfl
          rotate_left
          ·simp only [Act.put, zalaa, zalab, zalac, i64_w, i32_w]
           rfl
          refine pure_ (i := 16) (N := some 26) (v := ?_) (a' := ?_) zalsq16 rfl rfl (any_of HT_.out (by kernel_rfl)) (fun _ _ _ h => h) (Or.inl ⟨by rfl, ?_⟩) ?_ ?_
          rotate_left
          ·intro w'
           go_simp
           with_reducible rfl
          rotate_left
          ·simp only [Act.put, zalaa, zalab, zalac, i64_w, i32_w]
           rfl
          refine pure_ (i := 17) (N := some 27) (v := ?_) (a' := ?_) zalsq17 rfl rfl (any_of HT_.out (by kernel_rfl)) (fun _ _ _ h => h) (Or.inl ⟨by rfl, ?_⟩) ?_ ?_
          rotate_left
          ·intro w'
           go_simp
           with_reducible rfl
          rotate_left
          ·simp only [Act.put, zalaa, zalab, zalac, i64_w, i32_w]
           rfl
          refine pure_ (i := 18) (N := some 28) (v := ?_) (a' := ?_) zalsq18 rfl rfl (any_of HT_.out (by kernel_rfl)) (fun _ _ _ h => h) (Or.inl ⟨by rfl, ?_⟩) ?_ ?_
          rotate_left
          ·intro w'
           go_simp
           with_reducible rfl
          rotate_left
          ·simp only [Act.put, zalaa, zalab, zalac, i64_w, i32_w]
           rfl
          refine pure_ (i := 19) (N := some 29) (v := ?_) (a' := ?_) zalsq19 rfl rfl (any_of HT_.out (by kernel_rfl)) (fun _ _ _ h => h) (Or.inl ⟨by rfl, ?_⟩) ?_ ?_
          rotate_left
          ·intro w'
           go_simp
           with_reducible rfl
          rotate_left
          ·simp only [Act.put, zalaa, zalab, zalac, i64_w, i32_w]
           rfl
          refine take_ (i := 15) (N := some 25) (v := ?_) (a' := ?_) zalsq20 rfl rfl (take_ofW HT_.out HW_.out (by kernel_rfl)) (fun _ _ _ h => h) (Or.inl ⟨by rfl, ?_⟩) hHeld ?_ ?_
          rotate_left
          ·rintro w' ⟨s0, s1, s2, s3, s4, s5, s6, s7, s8, s9, s10, s11, s12, s13, s14⟩
           go_simp
           with_reducible rfl
          rotate_left
          ·simp only [Act.put, zalaa, zalab, zalac, i64_w, i32_w]
           rfl
          refine take_ (i := 20) (N := some 30) (v := ?_) (a' := ?_) zalsq21 rfl rfl (take_ofW HT_.out HW_.out (by kernel_rfl)) (fun _ _ _ h => h) (Or.inl ⟨by rfl, ?_⟩) hHeld ?_ ?_
          rotate_left
          ·rintro w' ⟨s0, s1, s2, s3, s4, s5, s6, s7, s8, s9, s10, s11, s12, s13, s14⟩
           go_simp
           with_reducible rfl
          rotate_left
          ·simp only [Act.put, zalaa, zalab, zalac, i64_w, i32_w]
           rfl
          refine pure_ (i := 21) (N := some 31) (v := ?_) (a' := ?_) zalsq22 rfl rfl (any_of HT_.out (by kernel_rfl)) (fun _ _ _ h => h) (Or.inl ⟨by rfl, ?_⟩) ?_ ?_
          rotate_left
          ·intro w'
           go_simp
           with_reducible rfl
          rotate_left
          ·simp only [Act.put, zalaa, zalab, zalac, i64_w, i32_w]
           rfl
          refine pure_ (i := 22) (N := some 32) (v := ?_) (a' := ?_) zalsq23 rfl rfl (any_of HT_.out (by kernel_rfl)) (fun _ _ _ h => h) (Or.inl ⟨by rfl, ?_⟩) ?_ ?_
          rotate_left
          ·intro w'
           go_simp
           with_reducible rfl
          rotate_left
          ·simp only [Act.put, zalaa, zalab, zalac, i64_w, i32_w]
           rfl
          refine pure_ (i := 23) (N := some 33) (v := ?_) (a' := ?_) zalsq24 rfl rfl (any_of HT_.out (by kernel_rfl)) (fun _ _ _ h => h) (Or.inl ⟨by rfl, ?_⟩) ?_ ?_
          rotate_left
          ·intro w'
           go_simp
           with_reducible rfl
          rotate_left
          ·simp only [Act.put, zalaa, zalab, zalac, i64_w, i32_w]
           rfl
          refine done_ (done_of HT_.out (by kernel_rfl)) ?_
          try go_wp2
          go_ret
          exact ⟨by first | rfl | (simp [errW_none, errW_some] <;> rfl) | (simp only [← hji7]; first | rfl | (simp [errW_none, errW_some] <;> rfl)) | (simp [*, errW_none, errW_some] <;> rfl), zh0 HB⟩
         ·rw [if_neg c10] at H
          have c10b0 : decide (((rd_T36 l0 (ji7)).f0) ≤ ((rd_T36 l0 zalai).f0)) = false := decide_eq_false c10
          clear c10
          have H' := zalah H
          clear H
          try go_wp2
          have n0_ := zalah (zalaf HB.out)
          clear HB
          have HB := n0_
          clear n0_
          have p241 : 0 ≤ (zalai : Int) := of_decide_eq_true (by first | (with_reducible assumption) | assumption)
          have q241 : zalai < (l0.length : Int) := of_decide_eq_true (by first | (with_reducible assumption) | assumption)
          obtain ⟨ad241, A241_4, c241_4, e241, hx241_0, hx241_1, hx241_2, hx241_3, hx241_4, hl241_4, hi241_4⟩ := at_T36 HR0.out zalai p241 q241
          have hw241_4 := hx241_4
          have hw241_3 := hx241_3
          have hw241_2 := hx241_2
          have hw241_1 := hx241_1
          have hw241_0 := hx241_0
          cases e241
          replace hx241_0 := (HB.out.cell (zalad w _ hx241_0)).trans hx241_0
          replace hx241_1 := (HB.out.cell (zalad w _ hx241_1)).trans hx241_1
          replace hx241_2 := (HB.out.cell (zalad w _ hx241_2)).trans hx241_2
          replace hx241_3 := (HB.out.cell (zalad w _ hx241_3)).trans hx241_3
          replace hx241_4 := (HB.out.cell (zalad w _ hx241_4)).trans hx241_4
          have HR241_4 := zalah hi241_4
          have HC241_4 := zalah hl241_4
          clear hi241_4 hl241_4
          replace p241 := eq_true p241
          replace q241 := eq_true q241
          have p243 : 0 ≤ ((ji7) : Int) := of_decide_eq_true (by first | (with_reducible assumption) | assumption)
          have q243 : (ji7) < (l0.length : Int) := of_decide_eq_true (by first | (with_reducible assumption) | assumption)
          obtain ⟨ad243, A243_4, c243_4, e243, hx243_0, hx243_1, hx243_2, hx243_3, hx243_4, hl243_4, hi243_4⟩ := at_T36 HR0.out (ji7) p243 q243
          have hw243_4 := hx243_4
          have hw243_3 := hx243_3
          have hw243_2 := hx243_2
          have hw243_1 := hx243_1
          have hw243_0 := hx243_0
          obtain rfl : ad241 = ad243 := (by injection e243)
          replace hx243_0 := (HB.out.cell (zalad w _ hx243_0)).trans hx243_0
          replace hx243_1 := (HB.out.cell (zalad w _ hx243_1)).trans hx243_1
          replace hx243_2 := (HB.out.cell (zalad w _ hx243_2)).trans hx243_2
          replace hx243_3 := (HB.out.cell (zalad w _ hx243_3)).trans hx243_3
          replace hx243_4 := (HB.out.cell (zalad w _ hx243_4)).trans hx243_4
          have HR243_4 := zalah hi243_4
          have HC243_4 := zalah hl243_4
          clear hi243_4 hl243_4
          replace p243 := eq_true p243
          replace q243 := eq_true q243
          have p244 : 0 ≤ (zalai : Int) := of_decide_eq_true (by first | (with_reducible assumption) | assumption)
          have q244 : zalai < (l0.length : Int) := of_decide_eq_true (by first | (with_reducible assumption) | assumption)
          obtain ⟨ad244, A244_4, c244_4, e244, hx244_0, hx244_1, hx244_2, hx244_3, hx244_4, hl244_4, hi244_4⟩ := at_T36 HR0.out zalai p244 q244
          have hw244_4 := hx244_4
          have hw244_3 := hx244_3
          have hw244_2 := hx244_2
          have hw244_1 := hx244_1
          have hw244_0 := hx244_0
          obtain rfl : ad241 = ad244 := (by injection e244)
          replace hx244_0 := (HB.out.cell (zalad w _ hx244_0)).trans hx244_0
          replace hx244_1 := (HB.out.cell (zalad w _ hx244_1)).trans hx244_1
          replace hx244_2 := (HB.out.cell (zalad w _ hx244_2)).trans hx244_2
          replace hx244_3 := (HB.out.cell (zalad w _ hx244_3)).trans hx244_3
          replace hx244_4 := (HB.out.cell (zalad w _ hx244_4)).trans hx244_4
          have HR244_4 := zalah hi244_4
          have HC244_4 := zalah hl244_4
          clear hi244_4 hl244_4
          replace p244 := eq_true p244
          replace q244 := eq_true q244
          refine start_ (n := 24) (S := fun w' => w'.cell? (ad241.add ((zalai).toNat * 5)) = some (.int .i64 ((rd_T36 l0 zalai).f0)) ∧ w'.cell? ⟨(ad241.add ((zalai).toNat * 5)).block, (ad241.add ((zalai).toNat * 5)).off + 1, none⟩ = some (.bool ((rd_T36 l0 zalai).f1)) ∧ w'.cell? ⟨(ad241.add ((zalai).toNat * 5)).block, (ad241.add ((zalai).toNat * 5)).off + 2, none⟩ = some (.int .i64 ((rd_T36 l0 zalai).f2)) ∧ w'.cell? ⟨(ad241.add ((zalai).toNat * 5)).block, (ad241.add ((zalai).toNat * 5)).off + 3, none⟩ = some (.string ((rd_T36 l0 zalai).f3)) ∧ w'.cell? ⟨(ad241.add ((zalai).toNat * 5)).block, (ad241.add ((zalai).toNat * 5)).off + 4, none⟩ = some (.slice A241_4 ((rd_T36 l0 zalai).f4).length c241_4) ∧ w'.cell? (ad241.add (((ji7)).toNat * 5)) = some (.int .i64 ((rd_T36 l0 (ji7)).f0)) ∧ w'.cell? ⟨(ad241.add (((ji7)).toNat * 5)).block, (ad241.add (((ji7)).toNat * 5)).off + 1, none⟩ = some (.bool ((rd_T36 l0 (ji7)).f1)) ∧ w'.cell? ⟨(ad241.add (((ji7)).toNat * 5)).block, (ad241.add (((ji7)).toNat * 5)).off + 2, none⟩ = some (.int .i64 ((rd_T36 l0 (ji7)).f2)) ∧ w'.cell? ⟨(ad241.add (((ji7)).toNat * 5)).block, (ad241.add (((ji7)).toNat * 5)).off + 3, none⟩ = some (.string ((rd_T36 l0 (ji7)).f3)) ∧ w'.cell? ⟨(ad241.add (((ji7)).toNat * 5)).block, (ad241.add (((ji7)).toNat * 5)).off + 4, none⟩ = some (.slice A243_4 ((rd_T36 l0 (ji7)).f4).length c243_4) ∧ w'.cell? (ad241.add ((zalai).toNat * 5)) = some (.int .i64 ((rd_T36 l0 zalai).f0)) ∧ w'.cell? ⟨(ad241.add ((zalai).toNat * 5)).block, (ad241.add ((zalai).toNat * 5)).off + 1, none⟩ = some (.bool ((rd_T36 l0 zalai).f1)) ∧ w'.cell? ⟨(ad241.add ((zalai).toNat * 5)).block, (ad241.add ((zalai).toNat * 5)).off + 2, none⟩ = some (.int .i64 ((rd_T36 l0 zalai).f2)) ∧ w'.cell? ⟨(ad241.add ((zalai).toNat * 5)).block, (ad241.add ((zalai).toNat * 5)).off + 3, none⟩ = some (.string ((rd_T36 l0 zalai).f3)) ∧ w'.cell? ⟨(ad241.add ((zalai).toNat * 5)).block, (ad241.add ((zalai).toNat * 5)).off + 4, none⟩ = some (.slice A244_4 ((rd_T36 l0 zalai).f4).length c244_4)) (ds := []) zalsq0 (by kernel_rfl) rfl rfl ⟨((HB.out.cell (zalad w _ hw241_0)).trans hw241_0), ((HB.out.cell (zalad w _ hw241_1)).trans hw241_1), ((HB.out.cell (zalad w _ hw241_2)).trans hw241_2), ((HB.out.cell (zalad w _ hw241_3)).trans hw241_3), ((HB.out.cell (zalad w _ hw241_4)).trans hw241_4), ((HB.out.cell (zalad w _ hw243_0)).trans hw243_0), ((HB.out.cell (zalad w _ hw243_1)).trans hw243_1), ((HB.out.cell (zalad w _ hw243_2)).trans hw243_2), ((HB.out.cell (zalad w _ hw243_3)).trans hw243_3), ((HB.out.cell (zalad w _ hw243_4)).trans hw243_4), ((HB.out.cell (zalad w _ hw244_0)).trans hw244_0), ((HB.out.cell (zalad w _ hw244_1)).trans hw244_1), ((HB.out.cell (zalad w _ hw244_2)).trans hw244_2), ((HB.out.cell (zalad w _ hw244_3)).trans hw244_3), ((HB.out.cell (zalad w _ hw244_4)).trans hw244_4)⟩ (fun hHeld => ?_); refine with_tabW stowageref13_May.tab4 stowageref13_May.bits4 (fun HT_ HW_ => ?_)
          generalize wr.drew = w13 at HB HR241_4 HR243_4 HR244_4 hx241_0 hx241_1 hx241_2 hx241_3 hx241_4 hx243_0 hx243_1 hx243_2 hx243_3 hx243_4 hx244_0 hx244_1 hx244_2 hx244_3 hx244_4 hHeld ⊢
          refine pure_ (i := 0) (N := some 10) (v := ?_) (a' := ?_) zalsq1 rfl rfl (any_of HT_.out (by kernel_rfl)) (fun _ _ _ h => h) (Or.inl ⟨by rfl, ?_⟩) ?_ ?_
          rotate_left
          ·intro w'
           go_simp
           with_reducible rfl
          rotate_left
          ·simp only [Act.put, zalaa, zalab, zalac, i64_w, i32_w]
           rfl
          refine pure_ (i := 1) (N := some 11) (v := ?_) (a' := ?_) zalsq2 rfl rfl (any_of HT_.out (by kernel_rfl)) (fun _ _ _ h => h) (Or.inl ⟨by rfl, ?_⟩) ?_ ?_
          rotate_left
          ·intro w'
           go_simp
           with_reducible rfl
          rotate_left
          ·simp only [Act.put, zalaa, zalab, zalac, i64_w, i32_w]
           rfl
          refine pure_ (i := 2) (N := some 12) (v := ?_) (a' := ?_) zalsq3 rfl rfl (any_of HT_.out (by kernel_rfl)) (fun _ _ _ h => h) (Or.inl ⟨by rfl, ?_⟩) ?_ ?_
          rotate_left
          ·intro w'
           go_simp
           with_reducible rfl
          rotate_left
          ·simp only [Act.put, zalaa, zalab, zalac, i64_w, i32_w]
           rfl
          refine take_ (i := 3) (N := some 13) (v := ?_) (a' := ?_) zalsq4 rfl rfl (take_ofW HT_.out HW_.out (by kernel_rfl)) (fun _ _ _ h => h) (Or.inl ⟨by rfl, ?_⟩) hHeld ?_ ?_
          rotate_left
          ·rintro w' ⟨s0, s1, s2, s3, s4, s5, s6, s7, s8, s9, s10, s11, s12, s13, s14⟩
           go_simp
           with_reducible rfl
          rotate_left
          ·simp only [Act.put, zalaa, zalab, zalac, i64_w, i32_w]
           rfl
          refine one_ (i := 4) (N := some 14) zalsq5 rfl rfl (one_of HT_.out (by kernel_rfl)) (by decide) (fun K hK => ?_)
          refine goes_ Try.func14 (by kernel_rfl) rfl #[.agg #[.int .i64 ((rd_T36 l0 zalai).f0), .bool ((rd_T36 l0 zalai).f1), .int .i64 ((rd_T36 l0 zalai).f2), .string ((rd_T36 l0 zalai).f3), .slice A241_4 ((rd_T36 l0 zalai).f4).length c241_4]] (by rfl) rfl rfl (by (try simp only [List.map_toArray, List.map_cons, List.map_nil]); first | done | rfl) ?_
          with_reducible refine (stowageref13_Check.calls k1 ((rd_T36 l0 zalai).f0) ((rd_T36 l0 zalai).f1) ((rd_T36 l0 zalai).f2) ((rd_T36 l0 zalai).f3) _ _ ((rd_T36 l0 zalai).f4) t242 _ ?side1 ?side2 A4.out).mono ?_
          (case side1 => repeat (first | exact (Kd.C_below HR241_4.out HB.out) | (with_reducible refine Kd.C_alloc ?_ _) | (with_reducible refine Kd.C_drewN ?_ _) | (with_reducible refine Kd.C_drew ?_)))
          (case side2 => exact HC241_4.out)
          rintro e w14 ⟨rfl, hb⟩
          refine ⟨_, rfl, ?_⟩
          have n0_ := zalah (below_step (zh0 HB) hb)
          clear HB
          have HB := n0_
          clear n0_
          (try clear hb)
          (try clear hb2)
          (try clear hk)
          (try clear hi)
          refine hK.out _ _ ⟨((HB.out.cell (zalad w _ hw241_0)).trans hw241_0), ((HB.out.cell (zalad w _ hw241_1)).trans hw241_1), ((HB.out.cell (zalad w _ hw241_2)).trans hw241_2), ((HB.out.cell (zalad w _ hw241_3)).trans hw241_3), ((HB.out.cell (zalad w _ hw241_4)).trans hw241_4), ((HB.out.cell (zalad w _ hw243_0)).trans hw243_0), ((HB.out.cell (zalad w _ hw243_1)).trans hw243_1), ((HB.out.cell (zalad w _ hw243_2)).trans hw243_2), ((HB.out.cell (zalad w _ hw243_3)).trans hw243_3), ((HB.out.cell (zalad w _ hw243_4)).trans hw243_4), ((HB.out.cell (zalad w _ hw244_0)).trans hw244_0), ((HB.out.cell (zalad w _ hw244_1)).trans hw244_1), ((HB.out.cell (zalad w _ hw244_2)).trans hw244_2), ((HB.out.cell (zalad w _ hw244_3)).trans hw244_3), ((HB.out.cell (zalad w _ hw244_4)).trans hw244_4)⟩ (fun hHeld => ?_)
          clear hK K
          refine norm_ (a' := ?_) ?_ ?_
          rotate_left
          ·show Act.put _ (some 14) _ = _
           simp only [Act.put, zalaa, zalab, zalac, i64_w, i32_w]
           rfl
          refine pure_ (i := 5) (N := some 15) (v := ?_) (a' := ?_) zalsq6 rfl rfl (any_of HT_.out (by kernel_rfl)) (fun _ _ _ h => h) (Or.inl ⟨by rfl, ?_⟩) ?_ ?_
          rotate_left
          ·intro w'
           go_simp
           with_reducible rfl
          rotate_left
          ·simp only [Act.put, zalaa, zalab, zalac, i64_w, i32_w]
           rfl
          refine pure_ (i := 6) (N := some 16) (v := ?_) (a' := ?_) zalsq7 rfl rfl (any_of HT_.out (by kernel_rfl)) (fun _ _ _ h => h) (Or.inl ⟨by rfl, ?_⟩) ?_ ?_
          rotate_left
          ·intro w'
           go_simp
           with_reducible rfl
          rotate_left
          ·simp only [Act.put, zalaa, zalab, zalac, i64_w, i32_w]
           rfl
          refine pure_ (i := 7) (N := some 17) (v := ?_) (a' := ?_) zalsq8 rfl rfl (any_of HT_.out (by kernel_rfl)) (fun _ _ _ h => h) (Or.inl ⟨by rfl, ?_⟩) ?_ ?_
          rotate_left
          ·intro w'
           go_simp
           with_reducible rfl
          rotate_left
          ·simp only [Act.put, zalaa, zalab, zalac, i64_w, i32_w]
           rfl
          refine pure_ (i := 8) (N := some 18) (v := ?_) (a' := ?_) zalsq9 rfl rfl (any_of HT_.out (by kernel_rfl)) (fun _ _ _ h => h) (Or.inl ⟨by rfl, ?_⟩) ?_ ?_
          rotate_left
          ·intro w'
           go_simp
           with_reducible rfl
          rotate_left
          ·simp only [Act.put, zalaa, zalab, zalac, i64_w, i32_w]
           rfl
          refine pure_ (i := 9) (N := some 19) (v := ?_) (a' := ?_) zalsq10 rfl rfl (any_of HT_.out (by kernel_rfl)) (fun _ _ _ h => h) (Or.inl ⟨by rfl, ?_⟩) ?_ ?_
          rotate_left
          ·intro w'
           go_simp
           with_reducible rfl
          rotate_left
          ·simp only [Act.put, zalaa, zalab, zalac, i64_w, i32_w]
           rfl
          refine pure_ (i := 10) (N := some 20) (v := ?_) (a' := ?_) zalsq11 rfl rfl (any_of HT_.out (by kernel_rfl)) (fun _ _ _ h => h) (Or.inl ⟨by rfl, ?_⟩) ?_ ?_
          rotate_left
          ·intro w'
           go_simp
           with_reducible rfl
          rotate_left
          ·simp only [Act.put, zalaa, zalab, zalac, i64_w, i32_w]
           rfl
          refine pure_ (i := 11) (N := some 21) (v := ?_) (a' := ?_) zalsq12 rfl rfl (any_of HT_.out (by kernel_rfl)) (fun _ _ _ h => h) (Or.inl ⟨by rfl, ?_⟩) ?_ ?_
          rotate_left
          ·intro w'
           go_simp
           with_reducible rfl
          rotate_left
          ·simp only [Act.put, zalaa, zalab, zalac, i64_w, i32_w]
           rfl
          refine pure_ (i := 12) (N := some 22) (v := ?_) (a' := ?_) zalsq13 rfl rfl (any_of HT_.out (by kernel_rfl)) (fun _ _ _ h => h) (Or.inl ⟨by rfl, ?_⟩) ?_ ?_
          rotate_left
          ·intro w'
           go_simp
           with_reducible rfl
          rotate_left
          ·simp only [Act.put, zalaa, zalab, zalac, i64_w, i32_w]
           rfl
          refine pure_ (i := 13) (N := some 23) (v := ?_) (a' := ?_) zalsq14 rfl rfl (any_of HT_.out (by kernel_rfl)) (fun _ _ _ h => h) (Or.inl ⟨by rfl, ?_⟩) ?_ ?_
          rotate_left
          ·intro w'
           go_simp
           with_reducible rfl
          rotate_left
          ·simp only [Act.put, zalaa, zalab, zalac, i64_w, i32_w]
           rfl
          refine pure_ (i := 14) (N := some 24) (v := ?_) (a' := ?_) zalsq15 rfl rfl (any_of HT_.out (by kernel_rfl)) (fun _ _ _ h => h) (Or.inl ⟨by rfl, ?_⟩) ?_ ?_
          rotate_left
          ·intro w'
           go_simp
           with_reducible rfl
          rotate_left
          ·simp only [Act.put, zalaa, zalab, zalac, i64_w, i32_w]
           rfl
          refine pure_ (i := 16) (N := some 26) (v := ?_) (a' := ?_) zalsq16 rfl rfl (any_of HT_.out (by kernel_rfl)) (fun _ _ _ h => h) (Or.inl ⟨by rfl, ?_⟩) ?_ ?_
          rotate_left
          ·intro w'
           go_simp
           with_reducible rfl
          rotate_left
          ·simp only [Act.put, zalaa, zalab, zalac, i64_w, i32_w]
           rfl
          refine pure_ (i := 17) (N := some 27) (v := ?_) (a' := ?_) zalsq17 rfl rfl (any_of HT_.out (by kernel_rfl)) (fun _ _ _ h => h) (Or.inl ⟨by rfl, ?_⟩) ?_ ?_
          rotate_left
          ·intro w'
           go_simp
           with_reducible rfl
          rotate_left
          ·simp only [Act.put, zalaa, zalab, zalac, i64_w, i32_w]
           rfl
          refine pure_ (i := 18) (N := some 28) (v := ?_) (a' := ?_) zalsq18 rfl rfl (any_of HT_.out (by kernel_rfl)) (fun _ _ _ h => h) (Or.inl ⟨by rfl, ?_⟩) ?_ ?_
          rotate_left
          ·intro w'
           go_simp
           with_reducible rfl
          rotate_left
          ·simp only [Act.put, zalaa, zalab, zalac, i64_w, i32_w]
           rfl
          refine pure_ (i := 19) (N := some 29) (v := ?_) (a' := ?_) zalsq19 rfl rfl (any_of HT_.out (by kernel_rfl)) (fun _ _ _ h => h) (Or.inl ⟨by rfl, ?_⟩) ?_ ?_
          rotate_left
          ·intro w'
           go_simp
           with_reducible rfl
          rotate_left
          ·simp only [Act.put, zalaa, zalab, zalac, i64_w, i32_w]
           rfl
          refine take_ (i := 15) (N := some 25) (v := ?_) (a' := ?_) zalsq20 rfl rfl (take_ofW HT_.out HW_.out (by kernel_rfl)) (fun _ _ _ h => h) (Or.inl ⟨by rfl, ?_⟩) hHeld ?_ ?_
          rotate_left
          ·rintro w' ⟨s0, s1, s2, s3, s4, s5, s6, s7, s8, s9, s10, s11, s12, s13, s14⟩
           go_simp
           with_reducible rfl
          rotate_left
          ·simp only [Act.put, zalaa, zalab, zalac, i64_w, i32_w]
           rfl
          refine take_ (i := 20) (N := some 30) (v := ?_) (a' := ?_) zalsq21 rfl rfl (take_ofW HT_.out HW_.out (by kernel_rfl)) (fun _ _ _ h => h) (Or.inl ⟨by rfl, ?_⟩) hHeld ?_ ?_
          rotate_left
          ·rintro w' ⟨s0, s1, s2, s3, s4, s5, s6, s7, s8, s9, s10, s11, s12, s13, s14⟩
           go_simp
           with_reducible rfl
          rotate_left
          ·simp only [Act.put, zalaa, zalab, zalac, i64_w, i32_w]
           rfl
          refine pure_ (i := 21) (N := some 31) (v := ?_) (a' := ?_) zalsq22 rfl rfl (any_of HT_.out (by kernel_rfl)) (fun _ _ _ h => h) (Or.inl ⟨by rfl, ?_⟩) ?_ ?_
          rotate_left
          ·intro w'
           go_simp
           with_reducible rfl
          rotate_left
          ·simp only [Act.put, zalaa, zalab, zalac, i64_w, i32_w]
           rfl
          refine pure_ (i := 22) (N := some 32) (v := ?_) (a' := ?_) zalsq23 rfl rfl (any_of HT_.out (by kernel_rfl)) (fun _ _ _ h => h) (Or.inl ⟨by rfl, ?_⟩) ?_ ?_
          rotate_left
          ·intro w'
           go_simp
           with_reducible rfl
          rotate_left
          ·simp only [Act.put, zalaa, zalab, zalac, i64_w, i32_w]
           rfl
          refine pure_ (i := 23) (N := some 33) (v := ?_) (a' := ?_) zalsq24 rfl rfl (any_of HT_.out (by kernel_rfl)) (fun _ _ _ h => h) (Or.inl ⟨by rfl, ?_⟩) ?_ ?_
          rotate_left
          ·intro w'
           go_simp
           with_reducible rfl
          rotate_left
          ·simp only [Act.put, zalaa, zalab, zalac, i64_w, i32_w]
           rfl
          refine done_ (done_of HT_.out (by kernel_rfl)) ?_
          try go_wp2
          go_roundg k1
          case measure => have := HK1.out; omega
          case rel => exact ⟨(wrap64 (zalai + 1)), (by first | rfl | (simp; done) | (simp [*]; done)), H', ⟨by have := HK1.out; omega⟩, ⟨zh0 HB⟩⟩
        ·rw [if_neg c9] at H
         exact absurd H (by simp)
       ·rw [if_neg c8] at H
        exact absurd H (by simp)
      ·rw [if_neg c6] at H
       have c6b0 : decide (0 < zalai) = false := decide_eq_false c6
       clear c6
       have H' := zalah H
       clear H
       try go_wp2
       have n0_ := zalah (zalaf HB.out)
       clear HB
       have HB := n0_
       clear n0_
       have p241 : 0 ≤ (zalai : Int) := of_decide_eq_true (by first | (with_reducible assumption) | assumption)
       have q241 : zalai < (l0.length : Int) := of_decide_eq_true (by first | (with_reducible assumption) | assumption)
       obtain ⟨ad241, A241_4, c241_4, e241, hx241_0, hx241_1, hx241_2, hx241_3, hx241_4, hl241_4, hi241_4⟩ := at_T36 HR0.out zalai p241 q241
       have hw241_4 := hx241_4
       have hw241_3 := hx241_3
       have hw241_2 := hx241_2
       have hw241_1 := hx241_1
       have hw241_0 := hx241_0
       cases e241
       replace hx241_0 := (HB.out.cell (zalad w _ hx241_0)).trans hx241_0
       replace hx241_1 := (HB.out.cell (zalad w _ hx241_1)).trans hx241_1
       replace hx241_2 := (HB.out.cell (zalad w _ hx241_2)).trans hx241_2
       replace hx241_3 := (HB.out.cell (zalad w _ hx241_3)).trans hx241_3
       replace hx241_4 := (HB.out.cell (zalad w _ hx241_4)).trans hx241_4
       have HR241_4 := zalah hi241_4
       have HC241_4 := zalah hl241_4
       clear hi241_4 hl241_4
       replace p241 := eq_true p241
       replace q241 := eq_true q241
       refine start_ (n := 24) (S := fun w' => w'.cell? (ad241.add ((zalai).toNat * 5)) = some (.int .i64 ((rd_T36 l0 zalai).f0)) ∧ w'.cell? ⟨(ad241.add ((zalai).toNat * 5)).block, (ad241.add ((zalai).toNat * 5)).off + 1, none⟩ = some (.bool ((rd_T36 l0 zalai).f1)) ∧ w'.cell? ⟨(ad241.add ((zalai).toNat * 5)).block, (ad241.add ((zalai).toNat * 5)).off + 2, none⟩ = some (.int .i64 ((rd_T36 l0 zalai).f2)) ∧ w'.cell? ⟨(ad241.add ((zalai).toNat * 5)).block, (ad241.add ((zalai).toNat * 5)).off + 3, none⟩ = some (.string ((rd_T36 l0 zalai).f3)) ∧ w'.cell? ⟨(ad241.add ((zalai).toNat * 5)).block, (ad241.add ((zalai).toNat * 5)).off + 4, none⟩ = some (.slice A241_4 ((rd_T36 l0 zalai).f4).length c241_4)) (ds := []) zalsq0 (by kernel_rfl) rfl rfl ⟨((HB.out.cell (zalad w _ hw241_0)).trans hw241_0), ((HB.out.cell (zalad w _ hw241_1)).trans hw241_1), ((HB.out.cell (zalad w _ hw241_2)).trans hw241_2), ((HB.out.cell (zalad w _ hw241_3)).trans hw241_3), ((HB.out.cell (zalad w _ hw241_4)).trans hw241_4)⟩ (fun hHeld => ?_); refine with_tabW stowageref13_May.tab4 stowageref13_May.bits4 (fun HT_ HW_ => ?_)
       generalize wr.drew = w15 at HB HR241_4 hx241_0 hx241_1 hx241_2 hx241_3 hx241_4 hHeld ⊢
       refine pure_ (i := 0) (N := some 10) (v := ?_) (a' := ?_) zalsq1 rfl rfl (any_of HT_.out (by kernel_rfl)) (fun _ _ _ h => h) (Or.inl ⟨by rfl, ?_⟩) ?_ ?_
       rotate_left
       ·intro w'
        go_simp
        with_reducible rfl
       rotate_left
       ·simp only [Act.put, zalaa, zalab, zalac, i64_w, i32_w]
        rfl
       refine pure_ (i := 1) (N := some 11) (v := ?_) (a' := ?_) zalsq2 rfl rfl (any_of HT_.out (by kernel_rfl)) (fun _ _ _ h => h) (Or.inl ⟨by rfl, ?_⟩) ?_ ?_
       rotate_left
       ·intro w'
        go_simp
        with_reducible rfl
       rotate_left
       ·simp only [Act.put, zalaa, zalab, zalac, i64_w, i32_w]
        rfl
       refine pure_ (i := 2) (N := some 12) (v := ?_) (a' := ?_) zalsq3 rfl rfl (any_of HT_.out (by kernel_rfl)) (fun _ _ _ h => h) (Or.inl ⟨by rfl, ?_⟩) ?_ ?_
       rotate_left
       ·intro w'
        go_simp
        with_reducible rfl
       rotate_left
       ·simp only [Act.put, zalaa, zalab, zalac, i64_w, i32_w]
        rfl
       refine take_ (i := 3) (N := some 13) (v := ?_) (a' := ?_) zalsq4 rfl rfl (take_ofW HT_.out HW_.out (by kernel_rfl)) (fun _ _ _ h => h) (Or.inl ⟨by rfl, ?_⟩) hHeld ?_ ?_
       rotate_left
       ·rintro w' ⟨s0, s1, s2, s3, s4⟩
        go_simp
        with_reducible rfl
       rotate_left
       ·simp only [Act.put, zalaa, zalab, zalac, i64_w, i32_w]
        rfl
       refine one_ (i := 4) (N := some 14) zalsq5 rfl rfl (one_of HT_.out (by kernel_rfl)) (by decide) (fun K hK => ?_)
       refine goes_ Try.func14 (by kernel_rfl) rfl #[.agg #[.int .i64 ((rd_T36 l0 zalai).f0), .bool ((rd_T36 l0 zalai).f1), .int .i64 ((rd_T36 l0 zalai).f2), .string ((rd_T36 l0 zalai).f3), .slice A241_4 ((rd_T36 l0 zalai).f4).length c241_4]] (by rfl) rfl rfl (by (try simp only [List.map_toArray, List.map_cons, List.map_nil]); first | done | rfl) ?_
       with_reducible refine (stowageref13_Check.calls k1 ((rd_T36 l0 zalai).f0) ((rd_T36 l0 zalai).f1) ((rd_T36 l0 zalai).f2) ((rd_T36 l0 zalai).f3) _ _ ((rd_T36 l0 zalai).f4) t242 _ ?side1 ?side2 A4.out).mono ?_
       (case side1 => repeat (first | exact (Kd.C_below HR241_4.out HB.out) | (with_reducible refine Kd.C_alloc ?_ _) | (with_reducible refine Kd.C_drewN ?_ _) | (with_reducible refine Kd.C_drew ?_)))
       (case side2 => exact HC241_4.out)
       rintro e w16 ⟨rfl, hb⟩
       refine ⟨_, rfl, ?_⟩
       have n0_ := zalah (below_step (zh0 HB) hb)
       clear HB
       have HB := n0_
       clear n0_
       (try clear hb)
       (try clear hb2)
       (try clear hk)
       (try clear hi)
       refine hK.out _ _ ⟨((HB.out.cell (zalad w _ hw241_0)).trans hw241_0), ((HB.out.cell (zalad w _ hw241_1)).trans hw241_1), ((HB.out.cell (zalad w _ hw241_2)).trans hw241_2), ((HB.out.cell (zalad w _ hw241_3)).trans hw241_3), ((HB.out.cell (zalad w _ hw241_4)).trans hw241_4)⟩ (fun hHeld => ?_)
       clear hK K
       refine norm_ (a' := ?_) ?_ ?_
       rotate_left
       ·show Act.put _ (some 14) _ = _
        simp only [Act.put, zalaa, zalab, zalac, i64_w, i32_w]
        rfl
       refine pure_ (i := 5) (N := some 15) (v := ?_) (a' := ?_) zalsq6 rfl rfl (any_of HT_.out (by kernel_rfl)) (fun _ _ _ h => h) (Or.inl ⟨by rfl, ?_⟩) ?_ ?_
       rotate_left
       ·intro w'
        go_simp
        with_reducible rfl
       rotate_left
       ·simp only [Act.put, zalaa, zalab, zalac, i64_w, i32_w]
        rfl
       refine pure_ (i := 6) (N := some 16) (v := ?_) (a' := ?_) zalsq7 rfl rfl (any_of HT_.out (by kernel_rfl)) (fun _ _ _ h => h) (Or.inl ⟨by rfl, ?_⟩) ?_ ?_
       rotate_left
       ·intro w'
        go_simp
        with_reducible rfl
       rotate_left
       ·simp only [Act.put, zalaa, zalab, zalac, i64_w, i32_w]
        rfl
       refine pure_ (i := 7) (N := some 17) (v := ?_) (a' := ?_) zalsq8 rfl rfl (any_of HT_.out (by kernel_rfl)) (fun _ _ _ h => h) (Or.inl ⟨by rfl, ?_⟩) ?_ ?_
       rotate_left
       ·intro w'
        go_simp
        with_reducible rfl
       rotate_left
       ·simp only [Act.put, zalaa, zalab, zalac, i64_w, i32_w]
        rfl
       refine pure_ (i := 8) (N := some 18) (v := ?_) (a' := ?_) zalsq9 rfl rfl (any_of HT_.out (by kernel_rfl)) (fun _ _ _ h => h) (Or.inl ⟨by rfl, ?_⟩) ?_ ?_
       rotate_left
       ·intro w'
        go_simp
        with_reducible rfl
       rotate_left
       ·simp only [Act.put, zalaa, zalab, zalac, i64_w, i32_w]
        rfl
       refine pure_ (i := 9) (N := some 19) (v := ?_) (a' := ?_) zalsq10 rfl rfl (any_of HT_.out (by kernel_rfl)) (fun _ _ _ h => h) (Or.inl ⟨by rfl, ?_⟩) ?_ ?_
       rotate_left
       ·intro w'
        go_simp
        with_reducible rfl
       rotate_left
       ·simp only [Act.put, zalaa, zalab, zalac, i64_w, i32_w]
        rfl
       refine pure_ (i := 10) (N := some 20) (v := undef) (a' := ?_) zalsq11 rfl rfl (any_of HT_.out (by kernel_rfl)) (fun _ _ _ h => h) (Or.inr ⟨by rfl, rfl⟩) ?_ ?_
       rotate_left
       ·simp only [Act.put, zalaa, zalab, zalac, i64_w, i32_w]
        rfl
       refine pure_ (i := 11) (N := some 21) (v := undef) (a' := ?_) zalsq12 rfl rfl (any_of HT_.out (by kernel_rfl)) (fun _ _ _ h => h) (Or.inr ⟨by rfl, rfl⟩) ?_ ?_
       rotate_left
       ·simp only [Act.put, zalaa, zalab, zalac, i64_w, i32_w]
        rfl
       refine pure_ (i := 12) (N := some 22) (v := undef) (a' := ?_) zalsq13 rfl rfl (any_of HT_.out (by kernel_rfl)) (fun _ _ _ h => h) (Or.inr ⟨by rfl, rfl⟩) ?_ ?_
       rotate_left
       ·simp only [Act.put, zalaa, zalab, zalac, i64_w, i32_w]
        rfl
       refine pure_ (i := 13) (N := some 23) (v := undef) (a' := ?_) zalsq14 rfl rfl (any_of HT_.out (by kernel_rfl)) (fun _ _ _ h => h) (Or.inr ⟨by rfl, rfl⟩) ?_ ?_
       rotate_left
       ·simp only [Act.put, zalaa, zalab, zalac, i64_w, i32_w]
        rfl
       refine pure_ (i := 14) (N := some 24) (v := undef) (a' := ?_) zalsq15 rfl rfl (any_of HT_.out (by kernel_rfl)) (fun _ _ _ h => h) (Or.inr ⟨by rfl, rfl⟩) ?_ ?_
       rotate_left
       ·simp only [Act.put, zalaa, zalab, zalac, i64_w, i32_w]
        rfl
       refine pure_ (i := 15) (N := some 25) (v := undef) (a' := ?_) zalsq25 rfl rfl (any_of HT_.out (by kernel_rfl)) (fun _ _ _ h => h) (Or.inr ⟨by rfl, rfl⟩) ?_ ?_
       rotate_left
       ·simp only [Act.put, zalaa, zalab, zalac, i64_w, i32_w]
        rfl
       refine pure_ (i := 16) (N := some 26) (v := undef) (a' := ?_) zalsq26 rfl rfl (any_of HT_.out (by kernel_rfl)) (fun _ _ _ h => h) (Or.inr ⟨by rfl, rfl⟩) ?_ ?_
       rotate_left
       ·simp only [Act.put, zalaa, zalab, zalac, i64_w, i32_w]
        rfl
       refine pure_ (i := 17) (N := some 27) (v := undef) (a' := ?_) zalsq27 rfl rfl (any_of HT_.out (by kernel_rfl)) (fun _ _ _ h => h) (Or.inr ⟨by rfl, rfl⟩) ?_ ?_
       rotate_left
       ·simp only [Act.put, zalaa, zalab, zalac, i64_w, i32_w]
        rfl
       refine pure_ (i := 18) (N := some 28) (v := undef) (a' := ?_) zalsq28 rfl rfl (any_of HT_.out (by kernel_rfl)) (fun _ _ _ h => h) (Or.inr ⟨by rfl, rfl⟩) ?_ ?_
       rotate_left
       ·simp only [Act.put, zalaa, zalab, zalac, i64_w, i32_w]
        rfl
       refine pure_ (i := 19) (N := some 29) (v := undef) (a' := ?_) zalsq20 rfl rfl (any_of HT_.out (by kernel_rfl)) (fun _ _ _ h => h) (Or.inr ⟨by rfl, rfl⟩) ?_ ?_
       rotate_left
       ·simp only [Act.put, zalaa, zalab, zalac, i64_w, i32_w]
        rfl
       refine pure_ (i := 20) (N := some 30) (v := undef) (a' := ?_) zalsq21 rfl rfl (any_of HT_.out (by kernel_rfl)) (fun _ _ _ h => h) (Or.inr ⟨by rfl, rfl⟩) ?_ ?_
       rotate_left
       ·simp only [Act.put, zalaa, zalab, zalac, i64_w, i32_w]
        rfl
       refine pure_ (i := 21) (N := some 31) (v := undef) (a' := ?_) zalsq22 rfl rfl (any_of HT_.out (by kernel_rfl)) (fun _ _ _ h => h) (Or.inr ⟨by rfl, rfl⟩) ?_ ?_
       rotate_left
       ·simp only [Act.put, zalaa, zalab, zalac, i64_w, i32_w]
        rfl
       refine pure_ (i := 22) (N := some 32) (v := ?_) (a' := ?_) zalsq23 rfl rfl (any_of HT_.out (by kernel_rfl)) (fun _ _ _ h => h) (Or.inl ⟨by rfl, ?_⟩) ?_ ?_
       rotate_left
       ·intro w'
        go_simp
        with_reducible rfl
       rotate_left
       ·simp only [Act.put, zalaa, zalab, zalac, i64_w, i32_w]
        rfl
       refine pure_ (i := 23) (N := some 33) (v := ?_) (a' := ?_) zalsq24 rfl rfl (any_of HT_.out (by kernel_rfl)) (fun _ _ _ h => h) (Or.inl ⟨by rfl, ?_⟩) ?_ ?_
       rotate_left
       ·intro w'
        go_simp
        with_reducible rfl
       rotate_left
       ·simp only [Act.put, zalaa, zalab, zalac, i64_w, i32_w]
        rfl
       refine done_ (done_of HT_.out (by kernel_rfl)) ?_
       try go_wp2
       go_roundg k1
       case measure => have := HK1.out; omega
       case rel => exact ⟨(wrap64 (zalai + 1)), (by first | rfl | (simp; done) | (simp [*]; done)), H', ⟨by have := HK1.out; omega⟩, ⟨zh0 HB⟩⟩
     ·rw [if_neg c5] at H
      have c5b0 : (t242 == 0) = false := beq_eq_false_iff_ne.mpr c5
      have c5b1 : (t242 != 0) = true := bne_iff_ne.mpr c5
      obtain rfl := Option.some.inj H
      try go_wp2
      have n0_ := zalah (zalaf HB.out)
      clear HB
      have HB := n0_
      clear n0_
      have p241 : 0 ≤ (zalai : Int) := of_decide_eq_true (by first | (with_reducible assumption) | assumption)
      have q241 : zalai < (l0.length : Int) := of_decide_eq_true (by first | (with_reducible assumption) | assumption)
      obtain ⟨ad241, A241_4, c241_4, e241, hx241_0, hx241_1, hx241_2, hx241_3, hx241_4, hl241_4, hi241_4⟩ := at_T36 HR0.out zalai p241 q241
      have hw241_4 := hx241_4
      have hw241_3 := hx241_3
      have hw241_2 := hx241_2
      have hw241_1 := hx241_1
      have hw241_0 := hx241_0
      cases e241
      replace hx241_0 := (HB.out.cell (zalad w _ hx241_0)).trans hx241_0
      replace hx241_1 := (HB.out.cell (zalad w _ hx241_1)).trans hx241_1
      replace hx241_2 := (HB.out.cell (zalad w _ hx241_2)).trans hx241_2
      replace hx241_3 := (HB.out.cell (zalad w _ hx241_3)).trans hx241_3
      replace hx241_4 := (HB.out.cell (zalad w _ hx241_4)).trans hx241_4
      have HR241_4 := zalah hi241_4
      have HC241_4 := zalah hl241_4
      clear hi241_4 hl241_4
      replace p241 := eq_true p241
      replace q241 := eq_true q241
      refine start_ (n := 24) (S := fun w' => w'.cell? (ad241.add ((zalai).toNat * 5)) = some (.int .i64 ((rd_T36 l0 zalai).f0)) ∧ w'.cell? ⟨(ad241.add ((zalai).toNat * 5)).block, (ad241.add ((zalai).toNat * 5)).off + 1, none⟩ = some (.bool ((rd_T36 l0 zalai).f1)) ∧ w'.cell? ⟨(ad241.add ((zalai).toNat * 5)).block, (ad241.add ((zalai).toNat * 5)).off + 2, none⟩ = some (.int .i64 ((rd_T36 l0 zalai).f2)) ∧ w'.cell? ⟨(ad241.add ((zalai).toNat * 5)).block, (ad241.add ((zalai).toNat * 5)).off + 3, none⟩ = some (.string ((rd_T36 l0 zalai).f3)) ∧ w'.cell? ⟨(ad241.add ((zalai).toNat * 5)).block, (ad241.add ((zalai).toNat * 5)).off + 4, none⟩ = some (.slice A241_4 ((rd_T36 l0 zalai).f4).length c241_4)) (ds := []) zalsq0 (by kernel_rfl) rfl rfl ⟨((HB.out.cell (zalad w _ hw241_0)).trans hw241_0), ((HB.out.cell (zalad w _ hw241_1)).trans hw241_1), ((HB.out.cell (zalad w _ hw241_2)).trans hw241_2), ((HB.out.cell (zalad w _ hw241_3)).trans hw241_3), ((HB.out.cell (zalad w _ hw241_4)).trans hw241_4)⟩ (fun hHeld => ?_); refine with_tabW stowageref13_May.tab4 stowageref13_May.bits4 (fun HT_ HW_ => ?_)
      generalize wr.drew = w17 at HB HR241_4 hx241_0 hx241_1 hx241_2 hx241_3 hx241_4 hHeld ⊢
      refine pure_ (i := 0) (N := some 10) (v := ?_) (a' := ?_) zalsq1 rfl rfl (any_of HT_.out (by kernel_rfl)) (fun _ _ _ h => h) (Or.inl ⟨by rfl, ?_⟩) ?_ ?_
      rotate_left
      ·intro w'
       go_simp
       with_reducible rfl
      rotate_left
      ·simp only [Act.put, zalaa, zalab, zalac, i64_w, i32_w]
       rfl
      refine pure_ (i := 1) (N := some 11) (v := ?_) (a' := ?_) zalsq2 rfl rfl (any_of HT_.out (by kernel_rfl)) (fun _ _ _ h => h) (Or.inl ⟨by rfl, ?_⟩) ?_ ?_
      rotate_left
      ·intro w'
       go_simp
       with_reducible rfl
      rotate_left
      ·simp only [Act.put, zalaa, zalab, zalac, i64_w, i32_w]
       rfl
      refine pure_ (i := 2) (N := some 12) (v := ?_) (a' := ?_) zalsq3 rfl rfl (any_of HT_.out (by kernel_rfl)) (fun _ _ _ h => h) (Or.inl ⟨by rfl, ?_⟩) ?_ ?_
      rotate_left
      ·intro w'
       go_simp
       with_reducible rfl
      rotate_left
      ·simp only [Act.put, zalaa, zalab, zalac, i64_w, i32_w]
       rfl
      refine take_ (i := 3) (N := some 13) (v := ?_) (a' := ?_) zalsq4 rfl rfl (take_ofW HT_.out HW_.out (by kernel_rfl)) (fun _ _ _ h => h) (Or.inl ⟨by rfl, ?_⟩) hHeld ?_ ?_
      rotate_left
      ·rintro w' ⟨s0, s1, s2, s3, s4⟩
       go_simp
       with_reducible rfl
      rotate_left
      ·simp only [Act.put, zalaa, zalab, zalac, i64_w, i32_w]
       rfl
      refine one_ (i := 4) (N := some 14) zalsq5 rfl rfl (one_of HT_.out (by kernel_rfl)) (by decide) (fun K hK => ?_)
      refine goes_ Try.func14 (by kernel_rfl) rfl #[.agg #[.int .i64 ((rd_T36 l0 zalai).f0), .bool ((rd_T36 l0 zalai).f1), .int .i64 ((rd_T36 l0 zalai).f2), .string ((rd_T36 l0 zalai).f3), .slice A241_4 ((rd_T36 l0 zalai).f4).length c241_4]] (by rfl) rfl rfl (by (try simp only [List.map_toArray, List.map_cons, List.map_nil]); first | done | rfl) ?_
      with_reducible refine (stowageref13_Check.calls k1 ((rd_T36 l0 zalai).f0) ((rd_T36 l0 zalai).f1) ((rd_T36 l0 zalai).f2) ((rd_T36 l0 zalai).f3) _ _ ((rd_T36 l0 zalai).f4) t242 _ ?side1 ?side2 A4.out).mono ?_
      (case side1 => repeat (first | exact (Kd.C_below HR241_4.out HB.out) | (with_reducible refine Kd.C_alloc ?_ _) | (with_reducible refine Kd.C_drewN ?_ _) | (with_reducible refine Kd.C_drew ?_)))
      (case side2 => exact HC241_4.out)
      rintro e w18 ⟨rfl, hb⟩
      refine ⟨_, rfl, ?_⟩
      have n0_ := zalah (below_step (zh0 HB) hb)
      clear HB
      have HB := n0_
      clear n0_
      (try clear hb)
      (try clear hb2)
      (try clear hk)
      (try clear hi)
      refine hK.out _ _ ⟨((HB.out.cell (zalad w _ hw241_0)).trans hw241_0), ((HB.out.cell (zalad w _ hw241_1)).trans hw241_1), ((HB.out.cell (zalad w _ hw241_2)).trans hw241_2), ((HB.out.cell (zalad w _ hw241_3)).trans hw241_3), ((HB.out.cell (zalad w _ hw241_4)).trans hw241_4)⟩ (fun hHeld => ?_)
      clear hK K
      refine norm_ (a' := ?_) ?_ ?_
      rotate_left
      ·show Act.put _ (some 14) _ = _
       simp only [Act.put, zalaa, zalab, zalac, i64_w, i32_w]
       rfl
      refine pure_ (i := 5) (N := some 15) (v := ?_) (a' := ?_) zalsq6 rfl rfl (any_of HT_.out (by kernel_rfl)) (fun _ _ _ h => h) (Or.inl ⟨by rfl, ?_⟩) ?_ ?_
      rotate_left
      ·intro w'
       go_simp
       with_reducible rfl
      rotate_left
      ·simp only [Act.put, zalaa, zalab, zalac, i64_w, i32_w]
       rfl
      refine pure_ (i := 6) (N := some 16) (v := ?_) (a' := ?_) zalsq7 rfl rfl (any_of HT_.out (by kernel_rfl)) (fun _ _ _ h => h) (Or.inl ⟨by rfl, ?_⟩) ?_ ?_
      rotate_left
      ·intro w'
       go_simp
       with_reducible rfl
      rotate_left
      ·simp only [Act.put, zalaa, zalab, zalac, i64_w, i32_w]
       rfl
      refine pure_ (i := 7) (N := some 17) (v := undef) (a' := ?_) zalsq8 rfl rfl (any_of HT_.out (by kernel_rfl)) (fun _ _ _ h => h) (Or.inr ⟨by rfl, rfl⟩) ?_ ?_
      rotate_left
      ·simp only [Act.put, zalaa, zalab, zalac, i64_w, i32_w]
       rfl
      refine pure_ (i := 8) (N := some 18) (v := undef) (a' := ?_) zalsq9 rfl rfl (any_of HT_.out (by kernel_rfl)) (fun _ _ _ h => h) (Or.inr ⟨by rfl, rfl⟩) ?_ ?_
      rotate_left
      ·simp only [Act.put, zalaa, zalab, zalac, i64_w, i32_w]
       rfl
      refine pure_ (i := 9) (N := some 19) (v := undef) (a' := ?_) zalsq10 rfl rfl (any_of HT_.out (by kernel_rfl)) (fun _ _ _ h => h) (Or.inr ⟨by rfl, rfl⟩) ?_ ?_
      rotate_left
      ·simp only [Act.put, zalaa, zalab, zalac, i64_w, i32_w]
       rfl
      refine pure_ (i := 10) (N := some 20) (v := undef) (a' := ?_) zalsq11 rfl rfl (any_of HT_.out (by kernel_rfl)) (fun _ _ _ h => h) (Or.inr ⟨by rfl, rfl⟩) ?_ ?_
      rotate_left
      ·simp only [Act.put, zalaa, zalab, zalac, i64_w, i32_w]
       rfl
      refine pure_ (i := 11) (N := some 21) (v := undef) (a' := ?_) zalsq12 rfl rfl (any_of HT_.out (by kernel_rfl)) (fun _ _ _ h => h) (Or.inr ⟨by rfl, rfl⟩) ?_ ?_
      rotate_left
      ·simp only [Act.put, zalaa, zalab, zalac, i64_w, i32_w]
       rfl
      refine pure_ (i := 12) (N := some 22) (v := undef) (a' := ?_) zalsq13 rfl rfl (any_of HT_.out (by kernel_rfl)) (fun _ _ _ h => h) (Or.inr ⟨by rfl, rfl⟩) ?_ ?_
      rotate_left
      ·simp only [Act.put, zalaa, zalab, zalac, i64_w, i32_w]
       rfl
      refine pure_ (i := 13) (N := some 23) (v := undef) (a' := ?_) zalsq14 rfl rfl (any_of HT_.out (by kernel_rfl)) (fun _ _ _ h => h) (Or.inr ⟨by rfl, rfl⟩) ?_ ?_
      rotate_left
      ·simp only [Act.put, zalaa, zalab, zalac, i64_w, i32_w]
       rfl
      refine pure_ (i := 14) (N := some 24) (v := undef) (a' := ?_) zalsq15 rfl rfl (any_of HT_.out (by kernel_rfl)) (fun _ _ _ h => h) (Or.inr ⟨by rfl, rfl⟩) ?_ ?_
      rotate_left
      ·simp only [Act.put, zalaa, zalab, zalac, i64_w, i32_w]
       rfl
      refine pure_ (i := 15) (N := some 25) (v := undef) (a' := ?_) zalsq25 rfl rfl (any_of HT_.out (by kernel_rfl)) (fun _ _ _ h => h) (Or.inr ⟨by rfl, rfl⟩) ?_ ?_
      rotate_left
      ·simp only [Act.put, zalaa, zalab, zalac, i64_w, i32_w]
       rfl
      refine pure_ (i := 16) (N := some 26) (v := undef) (a' := ?_) zalsq26 rfl rfl (any_of HT_.out (by kernel_rfl)) (fun _ _ _ h => h) (Or.inr ⟨by rfl, rfl⟩) ?_ ?_
      rotate_left
      ·simp only [Act.put, zalaa, zalab, zalac, i64_w, i32_w]
       rfl
      refine pure_ (i := 17) (N := some 27) (v := undef) (a' := ?_) zalsq27 rfl rfl (any_of HT_.out (by kernel_rfl)) (fun _ _ _ h => h) (Or.inr ⟨by rfl, rfl⟩) ?_ ?_
      rotate_left
      ·simp only [Act.put, zalaa, zalab, zalac, i64_w, i32_w]
       rfl
      refine pure_ (i := 18) (N := some 28) (v := undef) (a' := ?_) zalsq28 rfl rfl (any_of HT_.out (by kernel_rfl)) (fun _ _ _ h => h) (Or.inr ⟨by rfl, rfl⟩) ?_ ?_
      rotate_left
      ·simp only [Act.put, zalaa, zalab, zalac, i64_w, i32_w]
       rfl
      refine pure_ (i := 19) (N := some 29) (v := undef) (a' := ?_) zalsq20 rfl rfl (any_of HT_.out (by kernel_rfl)) (fun _ _ _ h => h) (Or.inr ⟨by rfl, rfl⟩) ?_ ?_
      rotate_left
      ·simp only [Act.put, zalaa, zalab, zalac, i64_w, i32_w]
       rfl
      refine pure_ (i := 20) (N := some 30) (v := undef) (a' := ?_) zalsq21 rfl rfl (any_of HT_.out (by kernel_rfl)) (fun _ _ _ h => h) (Or.inr ⟨by rfl, rfl⟩) ?_ ?_
      rotate_left
      ·simp only [Act.put, zalaa, zalab, zalac, i64_w, i32_w]
       rfl
      refine pure_ (i := 21) (N := some 31) (v := undef) (a' := ?_) zalsq22 rfl rfl (any_of HT_.out (by kernel_rfl)) (fun _ _ _ h => h) (Or.inr ⟨by rfl, rfl⟩) ?_ ?_
      rotate_left
      ·simp only [Act.put, zalaa, zalab, zalac, i64_w, i32_w]
       rfl
      refine pure_ (i := 22) (N := some 32) (v := undef) (a' := ?_) zalsq23 rfl rfl (any_of HT_.out (by kernel_rfl)) (fun _ _ _ h => h) (Or.inr ⟨by rfl, rfl⟩) ?_ ?_
      rotate_left
      ·simp only [Act.put, zalaa, zalab, zalac, i64_w, i32_w]
       rfl
      refine pure_ (i := 23) (N := some 33) (v := ?_) (a' := ?_) zalsq24 rfl rfl (any_of HT_.out (by kernel_rfl)) (fun _ _ _ h => h) (Or.inl ⟨by rfl, ?_⟩) ?_ ?_
      rotate_left
      ·intro w'
       go_simp
       with_reducible rfl
      rotate_left
      ·simp only [Act.put, zalaa, zalab, zalac, i64_w, i32_w]
       rfl
      refine done_ (done_of HT_.out (by kernel_rfl)) ?_
      try go_wp2
      go_ret
      exact ⟨by first | rfl | (simp [errW_none, errW_some] <;> rfl) | (simp [*, errW_none, errW_some] <;> rfl), zh0 HB⟩
    ·rw [if_neg c3] at H
     exact absurd H (by simp)
   ·rw [if_neg c2] at H
    have c2b0 : decide (zalai < (l0.length : Int)) = false := decide_eq_false c2
    clear c2
    obtain rfl := Option.some.inj H
    go_wp2
    go_ret
    exact ⟨by first | rfl | (simp [errW_none, errW_some] <;> rfl) | (simp [*, errW_none, errW_some] <;> rfl), zh0 HB⟩

end Go.Proofs.Ytmpnaaegahjfkaa.Q