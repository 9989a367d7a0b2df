

/- Written by a program of this session (wip/patch_print.py over the kit's print): functions of the given program as plain Lean functions, and that each call does what its function says, under no further conditions. -/
import Derived.Test.YtmpnaaegahjfkaaQx0
import Derived.Test.YtmpnaaegahjfkaaQx13
namespace Go.Proofs.Ytmpnaaegahjfkaa.Q
open Go.RowKit Go.Proofs.YtmpnaaegahjfkaaW.PrintWords Go.Proofs.YtmpnaaegahjfkaaW.PrintLast Go.Proofs.YtmpnaaegahjfkaaW.PrintMore
attribute [local go_sem] max2_int min2_int max_two min_two max_three min_three max_four min_four   -- for this text's walks alone
set_option linter.unusedVariables false
set_option linter.unusedSimpArgs false
attribute [local go_sem] xor_ones_u8 xor_ones_u16 xor_ones_u32 xor_ones_u64 cell_twice frozen_twice
abbrev zaoaa := @List.setIfInBounds_toArray
abbrev zaoab := @List.set_cons_zero
abbrev zaoac := @List.set_cons_succ
abbrev zaoad := @World.block_lt_of_cell?
abbrev zaoae := @below_drew1
abbrev zaoaf := @Aside0.mk
abbrev zaosq0 : Array Bool := #[false, false, false, false, false, false, false, false, false, false]
abbrev zaosq1 : Array Bool := #[true, false, false, false, false, false, false, false, false, false]
abbrev zaosq2 : Array Bool := #[true, true, false, false, false, false, false, false, false, false]
abbrev zaosq3 : Array Bool := #[true, true, true, false, false, false, false, false, false, false]
abbrev zaosq4 : Array Bool := #[true, true, true, false, true, false, false, false, false, false]
abbrev zaosq5 : Array Bool := #[true, true, true, false, true, true, false, false, false, false]
abbrev zaosq6 : Array Bool := #[true, true, true, false, true, true, true, false, false, false]
abbrev zaosq7 : Array Bool := #[true, true, true, true, true, true, true, false, false, false]
abbrev zaosq8 : Array Bool := #[true, true, true, true, true, true, true, true, false, false]
abbrev zaosq9 : Array Bool := #[true, true, true, true, true, true, true, true, true, false]
abbrev zaosq10 : Array Bool := #[true, true, true, true, true, true, true, true, true, true]
/-! ### stowageref13_Alike: function 21 -/
def stowageref13_Alike.l0 : Nat → List (S36) → List (S36) → Int → Option (Bool)
 | 0, _, _, _ => none
 | k + 1, x0, x1, x5 => if x5 < (x0.length : Int) then (if 0 ≤ x5 then (if x5 < (x1.length : Int) then ((stowageref13_Same.f k ((rd_T36 x0 x5).f0) ((rd_T36 x0 x5).f1) ((rd_T36 x0 x5).f2) ((rd_T36 x0 x5).f3) ((rd_T36 x0 x5).f4) ((rd_T36 x1 x5).f0) ((rd_T36 x1 x5).f1) ((rd_T36 x1 x5).f2) ((rd_T36 x1 x5).f3) ((rd_T36 x1 x5).f4)).bind fun t278 => (if t278 = true then (stowageref13_Alike.l0 k x0 x1 (wrap64 (x5 + 1))) else (some false))) else (none)) else (none)) else (some true)
def stowageref13_Alike.f (k : Nat) (l0 : List (S36)) (l1 : List (S36)) : Option (Bool) := if (l0.length : Int) = (l1.length : Int) then (stowageref13_Alike.l0 k l0 l1 0) else (some false)
def stowageref13_Alike.T6 : Bool × List (List Nat × List Nat) := (true, [([], []), ([], []), ([0, 1], [0, 1]), ([2], [2]), ([], []), ([], []), ([4, 5], [4, 5]), ([6], [6]), ([3, 7], [3, 7]), ([8], [8])])
def stowageref13_Alike.B6 : List Nat := [0, 0, 3, 7, 0, 0, 48, 112, 255, 511]
theorem stowageref13_Alike.tab6 : rtab .any (opsOf Try.f21 6) = stowageref13_Alike.T6 := by kernel_rfl
theorem stowageref13_Alike.bits6 : waitsOk stowageref13_Alike.T6.2 stowageref13_Alike.B6 = true := by kernel_rfl
set_option maxHeartbeats 8000000 in
set_option maxRecDepth 100000 in
theorem stowageref13_Alike.calls (k : Nat) (A0 : Option Addr) (c0 : Nat) (l0 : List (S36)) (A1 : Option Addr) (c1 : Nat) (l1 : List (S36)) (r : Bool) (w : World) (hr0 : Kd.C k36 w A0 l0.length l0) (hc0 : l0.length ≤ c0) (hr1 : Kd.C k36 w A1 l1.length l1) (hc1 : l1.length ≤ c1) (h : stowageref13_Alike.f k l0 l1 = some r) :
  Calls Try.prog 21 #[.slice A0 l0.length c0, .slice A1 l1.length c1] w fun e w' => e = .returned (.bool r) ∧ Below w.heap.size w w' := by
 have hu36 := Try.underlying36
 have HR0 := zaoaf hr0
 have HC0 := zaoaf hc0
 clear hr0 hc0
 have HR1 := zaoaf hr1
 have HC1 := zaoaf hc1
 clear hr1 hc1
 have HB := zaoaf (Below.refl w.heap.size w)
 have H : (if (l0.length : Int) = (l1.length : Int) then (stowageref13_Alike.l0 k l0 l1 0) else (some false)) = some r := h
 clear h
 by_cases c3 : (l0.length : Int) = (l1.length : Int)
 ·rw [if_pos c3] at H
  have c3b0 : ((l0.length : Int) == (l1.length : Int)) = true := beq_iff_eq.mpr c3
  have c3b1 : ((l0.length : Int) != (l1.length : Int)) = false := bne_eq_false_iff_eq.mpr c3
  have c3b2 : (l0.length == l1.length) = true := by first | simpa using c3 | (simp at c3 ⊢; omega)
  clear c3
  have H' := zaoaf H
  clear H
  go_enter Try.func21, Try.ntmps21
  go_wp2
  go_loopg [5] k (fun kq v5 w' => ∃ (zaoag : Int), v5 = .int .i64 zaoag ∧ Aside0 (stowageref13_Alike.l0 kq l0 l1 zaoag = some r) ∧ Aside0 (kq ≤ k) ∧ Aside0 (Below w.heap.size w w'))
  case atStart => exact ⟨(0), (by first | rfl | (simp; done) | (simp [*]; done)), H', ⟨Nat.le_refl _⟩, ⟨zh0 HB⟩⟩
  case round =>
   clear H'
   try clear c1
   try clear c2
   try clear p2
   try clear c3
   try clear c3b0
   try clear c3b1
   try clear c3b2
   obtain ⟨zaoag, rfl, HA, HK1, HB⟩ := hrel
   cases gk with
   | zero => exact absurd HA.out (by simp [stowageref13_Alike.l0])
   | succ k1 =>
    have H := HA.out
    clear HA
    simp only [stowageref13_Alike.l0] at H
    by_cases c4 : zaoag < (l0.length : Int)
    ·rw [if_pos c4] at H
     have c4b0 : decide (zaoag < (l0.length : Int)) = true := decide_eq_true c4
     clear c4
     by_cases c5 : 0 ≤ zaoag
     ·rw [if_pos c5] at H
      have c5b0 : decide (0 ≤ zaoag) = true := decide_eq_true c5
      clear c5
      by_cases c6 : zaoag < (l1.length : Int)
      ·rw [if_pos c6] at H
       have c6b0 : decide (zaoag < (l1.length : Int)) = true := decide_eq_true c6
       clear c6
       replace H := Option.bind_eq_some_iff.mp H
       obtain ⟨t278, A70, H⟩ := H
       replace H : (if t278 = true then (stowageref13_Alike.l0 k1 l0 l1 (wrap64 (zaoag + 1))) else (some false)) = some r := H
       have A7 := zaoaf A70
       clear A70
       by_cases c8 : t278 = true
       ·subst c8
        have H1 : (stowageref13_Alike.l0 k1 l0 l1 (wrap64 (zaoag + 1))) = some r := by rw [if_pos rfl] at H; exact H
        clear H
        have H := H1
        clear H1
        have H' := zaoaf H
        clear H
        try go_wp2
        have n0_ := zaoaf (zaoae HB.out)
        clear HB
        have HB := n0_
        clear n0_
        have p276 : 0 ≤ (zaoag : Int) := of_decide_eq_true (by first | (with_reducible assumption) | assumption)
        have q276 : zaoag < (l0.length : Int) := of_decide_eq_true (by first | (with_reducible assumption) | assumption)
        obtain ⟨ad276, A276_4, c276_4, e276, hx276_0, hx276_1, hx276_2, hx276_3, hx276_4, hl276_4, hi276_4⟩ := at_T36 HR0.out zaoag p276 q276
        have hw276_4 := hx276_4
        have hw276_3 := hx276_3
        have hw276_2 := hx276_2
        have hw276_1 := hx276_1
        have hw276_0 := hx276_0
        cases e276
        replace hx276_0 := (HB.out.cell (zaoad w _ hx276_0)).trans hx276_0
        replace hx276_1 := (HB.out.cell (zaoad w _ hx276_1)).trans hx276_1
        replace hx276_2 := (HB.out.cell (zaoad w _ hx276_2)).trans hx276_2
        replace hx276_3 := (HB.out.cell (zaoad w _ hx276_3)).trans hx276_3
        replace hx276_4 := (HB.out.cell (zaoad w _ hx276_4)).trans hx276_4
        have HR276_4 := zaoaf hi276_4
        have HC276_4 := zaoaf hl276_4
        clear hi276_4 hl276_4
        replace p276 := eq_true p276
        replace q276 := eq_true q276
        have p277 : 0 ≤ (zaoag : Int) := of_decide_eq_true (by first | (with_reducible assumption) | assumption)
        have q277 : zaoag < (l1.length : Int) := of_decide_eq_true (by first | (with_reducible assumption) | assumption)
        obtain ⟨ad277, A277_4, c277_4, e277, hx277_0, hx277_1, hx277_2, hx277_3, hx277_4, hl277_4, hi277_4⟩ := at_T36 HR1.out zaoag p277 q277
        have hw277_4 := hx277_4
        have hw277_3 := hx277_3
        have hw277_2 := hx277_2
        have hw277_1 := hx277_1
        have hw277_0 := hx277_0
        cases e277
        replace hx277_0 := (HB.out.cell (zaoad w _ hx277_0)).trans hx277_0
        replace hx277_1 := (HB.out.cell (zaoad w _ hx277_1)).trans hx277_1
        replace hx277_2 := (HB.out.cell (zaoad w _ hx277_2)).trans hx277_2
        replace hx277_3 := (HB.out.cell (zaoad w _ hx277_3)).trans hx277_3
        replace hx277_4 := (HB.out.cell (zaoad w _ hx277_4)).trans hx277_4
        have HR277_4 := zaoaf hi277_4
        have HC277_4 := zaoaf hl277_4
        clear hi277_4 hl277_4
        replace p277 := eq_true p277
        replace q277 := eq_true q277
        refine start_ (n := 10) (S := fun w' => w'.cell? (ad276.add ((zaoag).toNat * 5)) = some (.int .i64 ((rd_T36 l0 zaoag).f0)) ∧ w'.cell? ⟨(ad276.add ((zaoag).toNat * 5)).block, (ad276.add ((zaoag).toNat * 5)).off + 1, none⟩ = some (.bool ((rd_T36 l0 zaoag).f1)) ∧ w'.cell? ⟨(ad276.add ((zaoag).toNat * 5)).block, (ad276.add ((zaoag).toNat * 5)).off + 2, none⟩ = some (.int .i64 ((rd_T36 l0 zaoag).f2)) ∧ w'.cell? ⟨(ad276.add ((zaoag).toNat * 5)).block, (ad276.add ((zaoag).toNat * 5)).off + 3, none⟩ = some (.string ((rd_T36 l0 zaoag).f3)) ∧ w'.cell? ⟨(ad276.add ((zaoag).toNat * 5)).block, (ad276.add ((zaoag).toNat * 5)).off + 4, none⟩ = some (.slice A276_4 ((rd_T36 l0 zaoag).f4).length c276_4) ∧ w'.cell? (ad277.add ((zaoag).toNat * 5)) = some (.int .i64 ((rd_T36 l1 zaoag).f0)) ∧ w'.cell? ⟨(ad277.add ((zaoag).toNat * 5)).block, (ad277.add ((zaoag).toNat * 5)).off + 1, none⟩ = some (.bool ((rd_T36 l1 zaoag).f1)) ∧ w'.cell? ⟨(ad277.add ((zaoag).toNat * 5)).block, (ad277.add ((zaoag).toNat * 5)).off + 2, none⟩ = some (.int .i64 ((rd_T36 l1 zaoag).f2)) ∧ w'.cell? ⟨(ad277.add ((zaoag).toNat * 5)).block, (ad277.add ((zaoag).toNat * 5)).off + 3, none⟩ = some (.string ((rd_T36 l1 zaoag).f3)) ∧ w'.cell? ⟨(ad277.add ((zaoag).toNat * 5)).block, (ad277.add ((zaoag).toNat * 5)).off + 4, none⟩ = some (.slice A277_4 ((rd_T36 l1 zaoag).f4).length c277_4)) (ds := []) zaosq0 (by kernel_rfl) rfl rfl ⟨((HB.out.cell (zaoad w _ hw276_0)).trans hw276_0), ((HB.out.cell (zaoad w _ hw276_1)).trans hw276_1), ((HB.out.cell (zaoad w _ hw276_2)).trans hw276_2), ((HB.out.cell (zaoad w _ hw276_3)).trans hw276_3), ((HB.out.cell (zaoad w _ hw276_4)).trans hw276_4), ((HB.out.cell (zaoad w _ hw277_0)).trans hw277_0), ((HB.out.cell (zaoad w _ hw277_1)).trans hw277_1), ((HB.out.cell (zaoad w _ hw277_2)).trans hw277_2), ((HB.out.cell (zaoad w _ hw277_3)).trans hw277_3), ((HB.out.cell (zaoad w _ hw277_4)).trans hw277_4)⟩ (fun hHeld => ?_); refine with_tabW stowageref13_Alike.tab6 stowageref13_Alike.bits6 (fun HT_ HW_ => ?_)
        generalize wr.drew = w9 at HB HR276_4 HR277_4 hx276_0 hx276_1 hx276_2 hx276_3 hx276_4 hx277_0 hx277_1 hx277_2 hx277_3 hx277_4 hHeld ⊢
        refine pure_ (i := 0) (N := some 17) (v := ?_) (a' := ?_) zaosq1 rfl rfl (any_of HT_.out (by kernel_rfl)) (fun _ _ _ h => h) (Or.inl ⟨by rfl, ?_⟩) ?_ ?_
        rotate_left
        ·intro w'
         go_simp
         with_reducible rfl
        rotate_left
        ·simp only [Act.put, zaoaa, zaoab, zaoac, i64_w, i32_w]
         rfl
        refine pure_ (i := 1) (N := some 18) (v := ?_) (a' := ?_) zaosq2 rfl rfl (any_of HT_.out (by kernel_rfl)) (fun _ _ _ h => h) (Or.inl ⟨by rfl, ?_⟩) ?_ ?_
        rotate_left
        ·intro w'
         go_simp
         with_reducible rfl
        rotate_left
        ·simp only [Act.put, zaoaa, zaoab, zaoac, i64_w, i32_w]
         rfl
        refine pure_ (i := 2) (N := some 19) (v := ?_) (a' := ?_) zaosq3 rfl rfl (any_of HT_.out (by kernel_rfl)) (fun _ _ _ h => h) (Or.inl ⟨by rfl, ?_⟩) ?_ ?_
        rotate_left
        ·intro w'
         go_simp
         with_reducible rfl
        rotate_left
        ·simp only [Act.put, zaoaa, zaoab, zaoac, i64_w, i32_w]
         rfl
        refine pure_ (i := 4) (N := some 21) (v := ?_) (a' := ?_) zaosq4 rfl rfl (any_of HT_.out (by kernel_rfl)) (fun _ _ _ h => h) (Or.inl ⟨by rfl, ?_⟩) ?_ ?_
        rotate_left
        ·intro w'
         go_simp
         with_reducible rfl
        rotate_left
        ·simp only [Act.put, zaoaa, zaoab, zaoac, i64_w, i32_w]
         rfl
        refine pure_ (i := 5) (N := some 22) (v := ?_) (a' := ?_) zaosq5 rfl rfl (any_of HT_.out (by kernel_rfl)) (fun _ _ _ h => h) (Or.inl ⟨by rfl, ?_⟩) ?_ ?_
        rotate_left
        ·intro w'
         go_simp
         with_reducible rfl
        rotate_left
        ·simp only [Act.put, zaoaa, zaoab, zaoac, i64_w, i32_w]
         rfl
        refine pure_ (i := 6) (N := some 23) (v := ?_) (a' := ?_) zaosq6 rfl rfl (any_of HT_.out (by kernel_rfl)) (fun _ _ _ h => h) (Or.inl ⟨by rfl, ?_⟩) ?_ ?_
        rotate_left
        ·intro w'
         go_simp
         with_reducible rfl
        rotate_left
        ·simp only [Act.put, zaoaa, zaoab, zaoac, i64_w, i32_w]
         rfl
        refine take_ (i := 3) (N := some 20) (v := ?_) (a' := ?_) zaosq7 rfl rfl (take_ofW HT_.out HW_.out (by kernel_rfl)) (fun _ _ _ h => h) (Or.inl ⟨by rfl, ?_⟩) hHeld ?_ ?_
        rotate_left
        ·rintro w' ⟨s0, s1, s2, s3, s4, s5, s6, s7, s8, s9⟩
         go_simp
         with_reducible rfl
        rotate_left
        ·simp only [Act.put, zaoaa, zaoab, zaoac, i64_w, i32_w]
         rfl
        refine take_ (i := 7) (N := some 24) (v := ?_) (a' := ?_) zaosq8 rfl rfl (take_ofW HT_.out HW_.out (by kernel_rfl)) (fun _ _ _ h => h) (Or.inl ⟨by rfl, ?_⟩) hHeld ?_ ?_
        rotate_left
        ·rintro w' ⟨s0, s1, s2, s3, s4, s5, s6, s7, s8, s9⟩
         go_simp
         with_reducible rfl
        rotate_left
        ·simp only [Act.put, zaoaa, zaoab, zaoac, i64_w, i32_w]
         rfl
        refine one_ (i := 8) (N := some 25) zaosq9 rfl rfl (one_of HT_.out (by kernel_rfl)) (by decide) (fun K hK => ?_)
        refine goes_ Try.func23 (by kernel_rfl) rfl #[.agg #[.int .i64 ((rd_T36 l0 zaoag).f0), .bool ((rd_T36 l0 zaoag).f1), .int .i64 ((rd_T36 l0 zaoag).f2), .string ((rd_T36 l0 zaoag).f3), .slice A276_4 ((rd_T36 l0 zaoag).f4).length c276_4], .agg #[.int .i64 ((rd_T36 l1 zaoag).f0), .bool ((rd_T36 l1 zaoag).f1), .int .i64 ((rd_T36 l1 zaoag).f2), .string ((rd_T36 l1 zaoag).f3), .slice A277_4 ((rd_T36 l1 zaoag).f4).length c277_4]] (by rfl) rfl rfl (by (try simp only [List.map_toArray, List.map_cons, List.map_nil]); first | done | rfl) ?_
        with_reducible refine (stowageref13_Same.calls k1 ((rd_T36 l0 zaoag).f0) ((rd_T36 l0 zaoag).f1) ((rd_T36 l0 zaoag).f2) ((rd_T36 l0 zaoag).f3) _ _ ((rd_T36 l0 zaoag).f4) ((rd_T36 l1 zaoag).f0) ((rd_T36 l1 zaoag).f1) ((rd_T36 l1 zaoag).f2) ((rd_T36 l1 zaoag).f3) _ _ ((rd_T36 l1 zaoag).f4) true _ ?side1 ?side2 ?side3 ?side4 A7.out).mono ?_
        (case side1 => repeat (first | exact (Kd.C_below HR276_4.out HB.out) | (with_reducible refine Kd.C_alloc ?_ _) | (with_reducible refine Kd.C_drewN ?_ _) | (with_reducible refine Kd.C_drew ?_)))
        (case side2 => exact HC276_4.out)
        (case side3 => repeat (first | exact (Kd.C_below HR277_4.out HB.out) | (with_reducible refine Kd.C_alloc ?_ _) | (with_reducible refine Kd.C_drewN ?_ _) | (with_reducible refine Kd.C_drew ?_)))
        (case side4 => exact HC277_4.out)
        rintro e w10 ⟨rfl, hb⟩
        refine ⟨_, rfl, ?_⟩
        have n0_ := zaoaf (below_step (zh0 HB) hb)
        clear HB
        have HB := n0_
        clear n0_
        (try clear hb)
        (try clear hb2)
        (try clear hk)
        (try clear hi)
        refine hK.out _ _ ⟨((HB.out.cell (zaoad w _ hw276_0)).trans hw276_0), ((HB.out.cell (zaoad w _ hw276_1)).trans hw276_1), ((HB.out.cell (zaoad w _ hw276_2)).trans hw276_2), ((HB.out.cell (zaoad w _ hw276_3)).trans hw276_3), ((HB.out.cell (zaoad w _ hw276_4)).trans hw276_4), ((HB.out.cell (zaoad w _ hw277_0)).trans hw277_0), ((HB.out.cell (zaoad w _ hw277_1)).trans hw277_1), ((HB.out.cell (zaoad w _ hw277_2)).trans hw277_2), ((HB.out.cell (zaoad w _ hw277_3)).trans hw277_3), ((HB.out.cell (zaoad w _ hw277_4)).trans hw277_4)⟩ (fun hHeld => ?_)
        clear hK K
        refine norm_ (a' := ?_) ?_ ?_
        rotate_left
        ·show Act.put _ (some 25) _ = _
         simp only [Act.put, zaoaa, zaoab, zaoac, i64_w, i32_w]
         rfl
        refine pure_ (i := 9) (N := some 26) (v := ?_) (a' := ?_) zaosq10 rfl rfl (any_of HT_.out (by kernel_rfl)) (fun _ _ _ h => h) (Or.inl ⟨by rfl, ?_⟩) ?_ ?_
        rotate_left
        ·intro w'
         go_simp
         with_reducible rfl
        rotate_left
        ·simp only [Act.put, zaoaa, zaoab, zaoac, i64_w, i32_w]
         rfl
        refine done_ (done_of HT_.out (by kernel_rfl)) ?_
        try go_wp2
        go_roundg k1
        case measure => have := HK1.out; omega
        case rel => exact ⟨(wrap64 (zaoag + 1)), (by first | rfl | (simp; done) | (simp [*]; done)), H', ⟨by have := HK1.out; omega⟩, ⟨zh0 HB⟩⟩
       ·replace c8 := Bool.eq_false_iff.mpr c8
        subst c8
        have H1 : (some false) = some r := by rw [if_neg (show ¬ (false = true) by decide)] at H; exact H
        clear H
        have H := H1
        clear H1
        obtain rfl := Option.some.inj H
        try go_wp2
        have n0_ := zaoaf (zaoae HB.out)
        clear HB
        have HB := n0_
        clear n0_
        have p276 : 0 ≤ (zaoag : Int) := of_decide_eq_true (by first | (with_reducible assumption) | assumption)
        have q276 : zaoag < (l0.length : Int) := of_decide_eq_true (by first | (with_reducible assumption) | assumption)
        obtain ⟨ad276, A276_4, c276_4, e276, hx276_0, hx276_1, hx276_2, hx276_3, hx276_4, hl276_4, hi276_4⟩ := at_T36 HR0.out zaoag p276 q276
        have hw276_4 := hx276_4
        have hw276_3 := hx276_3
        have hw276_2 := hx276_2
        have hw276_1 := hx276_1
        have hw276_0 := hx276_0
        cases e276
        replace hx276_0 := (HB.out.cell (zaoad w _ hx276_0)).trans hx276_0
        replace hx276_1 := (HB.out.cell (zaoad w _ hx276_1)).trans hx276_1
        replace hx276_2 := (HB.out.cell (zaoad w _ hx276_2)).trans hx276_2
        replace hx276_3 := (HB.out.cell (zaoad w _ hx276_3)).trans hx276_3
        replace hx276_4 := (HB.out.cell (zaoad w _ hx276_4)).trans hx276_4
        have HR276_4 := zaoaf hi276_4
        have HC276_4 := zaoaf hl276_4
        clear hi276_4 hl276_4
        replace p276 := eq_true p276
        replace q276 := eq_true q276
        have p277 : 0 ≤ (zaoag : Int) := of_decide_eq_true (by first | (with_reducible assumption) | assumption)
        have q277 : zaoag < (l1.length : Int) := of_decide_eq_true (by first | (with_reducible assumption) | assumption)
        obtain ⟨ad277, A277_4, c277_4, e277, hx277_0, hx277_1, hx277_2, hx277_3, hx277_4, hl277_4, hi277_4⟩ := at_T36 HR1.out zaoag p277 q277
        have hw277_4 := hx277_4
        have hw277_3 := hx277_3
        have hw277_2 := hx277_2
        have hw277_1 := hx277_1
        have hw277_0 := hx277_0
        cases e277
        replace hx277_0 := (HB.out.cell (zaoad w _ hx277_0)).trans hx277_0
        replace hx277_1 := (HB.out.cell (zaoad w _ hx277_1)).trans hx277_1
        replace hx277_2 := (HB.out.cell (zaoad w _ hx277_2)).trans hx277_2
        replace hx277_3 := (HB.out.cell (zaoad w _ hx277_3)).trans hx277_3
        replace hx277_4 := (HB.out.cell (zaoad w _ hx277_4)).trans hx277_4
        have HR277_4 := zaoaf hi277_4
        have HC277_4 := zaoaf hl277_4
        clear hi277_4 hl277_4
        replace p277 := eq_true p277
        replace q277 := eq_true q277
        refine start_ (n := 10) (S := fun w' => w'.cell? (ad276.add ((zaoag).toNat * 5)) = some (.int .i64 ((rd_T36 l0 zaoag).f0)) ∧ w'.cell? ⟨(ad276.add ((zaoag).toNat * 5)).block, (ad276.add ((zaoag).toNat * 5)).off + 1, none⟩ = some (.bool ((rd_T36 l0 zaoag).f1)) ∧ w'.cell? ⟨(ad276.add ((zaoag).toNat * 5)).block, (ad276.add ((zaoag).toNat * 5)).off + 2, none⟩ = some (.int .i64 ((rd_T36 l0 zaoag).f2)) ∧ w'.cell? ⟨(ad276.add ((zaoag).toNat * 5)).block, (ad276.add ((zaoag).toNat * 5)).off + 3, none⟩ = some (.string ((rd_T36 l0 zaoag).f3)) ∧ w'.cell? ⟨(ad276.add ((zaoag).toNat * 5)).block, (ad276.add ((zaoag).toNat * 5)).off + 4, none⟩ = some (.slice A276_4 ((rd_T36 l0 zaoag).f4).length c276_4) ∧ w'.cell? (ad277.add ((zaoag).toNat * 5)) = some (.int .i64 ((rd_T36 l1 zaoag).f0)) ∧ w'.cell? ⟨(ad277.add ((zaoag).toNat * 5)).block, (ad277.add ((zaoag).toNat * 5)).off + 1, none⟩ = some (.bool ((rd_T36 l1 zaoag).f1)) ∧ w'.cell? ⟨(ad277.add ((zaoag).toNat * 5)).block, (ad277.add ((zaoag).toNat * 5)).off + 2, none⟩ = some (.int .i64 ((rd_T36 l1 zaoag).f2)) ∧ w'.cell? ⟨(ad277.add ((zaoag).toNat * 5)).block, (ad277.add ((zaoag).toNat * 5)).off + 3, none⟩ = some (.string ((rd_T36 l1 zaoag).f3)) ∧ w'.cell? ⟨(ad277.add ((zaoag).toNat * 5)).block, (ad277.add ((zaoag).toNat * 5)).off + 4, none⟩ = some (.slice A277_4 ((rd_T36 l1 zaoag).f4).length c277_4)) (ds := []) zaosq0 (by kernel_rfl) rfl rfl ⟨((HB.out.cell (zaoad w _ hw276_0)).trans hw276_0), ((HB.out.cell (zaoad w _ hw276_1)).trans hw276_1), ((HB.out.cell (zaoad w _ hw276_2)).trans hw276_2), ((HB.out.cell (zaoad w _ hw276_3)).trans hw276_3), ((HB.out.cell (zaoad w _ hw276_4)).trans hw276_4), ((HB.out.cell (zaoad w _ hw277_0)).trans hw277_0), ((HB.out.cell (zaoad w _ hw277_1)).trans hw277_1), ((HB.out.cell (zaoad w _ hw277_2)).trans hw277_2), ((HB.out.cell (zaoad w _ hw277_3)).trans hw277_3), ((HB.out.cell (zaoad w _ hw277_4)).trans hw277_4)⟩ (fun hHeld => ?_); refine with_tabW stowageref13_Alike.tab6 stowageref13_Alike.bits6 (fun HT_ HW_ => ?_)
        generalize wr.drew = w11 at HB HR276_4 HR277_4 hx276_0 hx276_1 hx276_2 hx276_3 hx276_4 hx277_0 hx277_1 hx277_2 hx277_3 hx277_4 hHeld ⊢
        refine pure_ (i := 0) (N := some 17) (v := ?_) (a' := ?_) zaosq1 rfl rfl (any_of HT_.out (by kernel_rfl)) (fun _ _ _ h => h) (Or.inl ⟨by rfl, ?_⟩) ?_ ?_
        rotate_left
        ·intro w'
         go_simp
         with_reducible rfl
        rotate_left
        ·simp only [Act.put, zaoaa, zaoab, zaoac, i64_w, i32_w]
         rfl
        refine pure_ (i := 1) (N := some 18) (v := ?_) (a' := ?_) zaosq2 rfl rfl (any_of HT_.out (by kernel_rfl)) (fun _ _ _ h => h) (Or.inl ⟨by rfl, ?_⟩) ?_ ?_
        rotate_left
        ·intro w'
         go_simp
         with_reducible rfl
        rotate_left
        ·simp only [Act.put, zaoaa, zaoab, zaoac, i64_w, i32_w]
         rfl
        refine pure_ (i := 2) (N := some 19) (v := ?_) (a' := ?_) zaosq3 rfl rfl (any_of HT_.out (by kernel_rfl)) (fun _ _ _ h => h) (Or.inl ⟨by rfl, ?_⟩) ?_ ?_
        rotate_left
        ·intro w'
         go_simp
         with_reducible rfl
        rotate_left
        ·simp only [Act.put, zaoaa, zaoab, zaoac, i64_w, i32_w]
         rfl
        refine pure_ (i := 4) (N := some 21) (v := ?_) (a' := ?_) zaosq4 rfl rfl (any_of HT_.out (by kernel_rfl)) (fun _ _ _ h => h) (Or.inl ⟨by rfl, ?_⟩) ?_ ?_
        rotate_left
        ·intro w'
         go_simp
         with_reducible rfl
        rotate_left
        ·simp only [Act.put, zaoaa, zaoab, zaoac, i64_w, i32_w]
         rfl
        refine pure_ (i := 5) (N := some 22) (v := ?_) (a' := ?_) zaosq5 rfl rfl (any_of HT_.out (by kernel_rfl)) (fun _ _ _ h => h) (Or.inl ⟨by rfl, ?_⟩) ?_ ?_
        rotate_left
        ·intro w'
         go_simp
         with_reducible rfl
        rotate_left
        ·simp only [Act.put, zaoaa, zaoab, zaoac, i64_w, i32_w]
         rfl
        refine pure_ (i := 6) (N := some 23) (v := ?_) (a' := ?_) zaosq6 rfl rfl (any_of HT_.out (by kernel_rfl)) (fun _ _ _ h => h) (Or.inl ⟨by rfl, ?_⟩) ?_ ?_
        rotate_left
        ·intro w'
         go_simp
         with_reducible rfl
        rotate_left
        ·simp only [Act.put, zaoaa, zaoab, zaoac, i64_w, i32_w]
         rfl
        refine take_ (i := 3) (N := some 20) (v := ?_) (a' := ?_) zaosq7 rfl rfl (take_ofW HT_.out HW_.out (by kernel_rfl)) (fun _ _ _ h => h) (Or.inl ⟨by rfl, ?_⟩) hHeld ?_ ?_
        rotate_left
        ·rintro w' ⟨s0, s1, s2, s3, s4, s5, s6, s7, s8, s9⟩
         go_simp
         with_reducible rfl
        rotate_left
        ·simp only [Act.put, zaoaa, zaoab, zaoac, i64_w, i32_w]
         rfl
        refine take_ (i := 7) (N := some 24) (v := ?_) (a' := ?_) zaosq8 rfl rfl (take_ofW HT_.out HW_.out (by kernel_rfl)) (fun _ _ _ h => h) (Or.inl ⟨by rfl, ?_⟩) hHeld ?_ ?_
        rotate_left
        ·rintro w' ⟨s0, s1, s2, s3, s4, s5, s6, s7, s8, s9⟩
         go_simp
         with_reducible rfl
        rotate_left
        ·simp only [Act.put, zaoaa, zaoab, zaoac, i64_w, i32_w]
         rfl
        refine one_ (i := 8) (N := some 25) zaosq9 rfl rfl (one_of HT_.out (by kernel_rfl)) (by decide) (fun K hK => ?_)
        refine goes_ Try.func23 (by kernel_rfl) rfl #[.agg #[.int .i64 ((rd_T36 l0 zaoag).f0), .bool ((rd_T36 l0 zaoag).f1), .int .i64 ((rd_T36 l0 zaoag).f2), .string ((rd_T36 l0 zaoag).f3), .slice A276_4 ((rd_T36 l0 zaoag).f4).length c276_4], .agg #[.int .i64 ((rd_T36 l1 zaoag).f0), .bool ((rd_T36 l1 zaoag).f1), .int .i64 ((rd_T36 l1 zaoag).f2), .string ((rd_T36 l1 zaoag).f3), .slice A277_4 ((rd_T36 l1 zaoag).f4).length c277_4]] (by rfl) rfl rfl (by (try simp only [List.map_toArray, List.map_cons, List.map_nil]); first | done | rfl) ?_
        with_reducible refine (stowageref13_Same.calls k1 ((rd_T36 l0 zaoag).f0) ((rd_T36 l0 zaoag).f1) ((rd_T36 l0 zaoag).f2) ((rd_T36 l0 zaoag).f3) _ _ ((rd_T36 l0 zaoag).f4) ((rd_T36 l1 zaoag).f0) ((rd_T36 l1 zaoag).f1) ((rd_T36 l1 zaoag).f2) ((rd_T36 l1 zaoag).f3) _ _ ((rd_T36 l1 zaoag).f4) false _ ?side1 ?side2 ?side3 ?side4 A7.out).mono ?_
        (case side1 => repeat (first | exact (Kd.C_below HR276_4.out HB.out) | (with_reducible refine Kd.C_alloc ?_ _) | (with_reducible refine Kd.C_drewN ?_ _) | (with_reducible refine Kd.C_drew ?_)))
        (case side2 => exact HC276_4.out)
        (case side3 => repeat (first | exact (Kd.C_below HR277_4.out HB.out) | (with_reducible refine Kd.C_alloc ?_ _) | (with_reducible refine Kd.C_drewN ?_ _) | (with_reducible refine Kd.C_drew ?_)))
        (case side4 => exact HC277_4.out)
        rintro e w12 ⟨rfl, hb⟩
        refine ⟨_, rfl, ?_⟩
        have n0_ := zaoaf (below_step (zh0 HB) hb)
        clear HB
        have HB := n0_
        clear n0_
        (try clear hb)
        (try clear hb2)
        (try clear hk)
        (try clear hi)
        refine hK.out _ _ ⟨((HB.out.cell (zaoad w _ hw276_0)).trans hw276_0), ((HB.out.cell (zaoad w _ hw276_1)).trans hw276_1), ((HB.out.cell (zaoad w _ hw276_2)).trans hw276_2), ((HB.out.cell (zaoad w _ hw276_3)).trans hw276_3), ((HB.out.cell (zaoad w _ hw276_4)).trans hw276_4), ((HB.out.cell (zaoad w _ hw277_0)).trans hw277_0), ((HB.out.cell (zaoad w _ hw277_1)).trans hw277_1), ((HB.out.cell (zaoad w _ hw277_2)).trans hw277_2), ((HB.out.cell (zaoad w _ hw277_3)).trans hw277_3), ((HB.out.cell (zaoad w _ hw277_4)).trans hw277_4)⟩ (fun hHeld => ?_)
        clear hK K
        refine norm_ (a' := ?_) ?_ ?_
        rotate_left
        ·show Act.put _ (some 25) _ = _
         simp only [Act.put, zaoaa, zaoab, zaoac, i64_w, i32_w]
         rfl
        refine pure_ (i := 9) (N := some 26) (v := ?_) (a' := ?_) zaosq10 rfl rfl (any_of HT_.out (by kernel_rfl)) (fun _ _ _ h => h) (Or.inl ⟨by rfl, ?_⟩) ?_ ?_
        rotate_left
        ·intro w'
         go_simp
         with_reducible rfl
        rotate_left
        ·simp only [Act.put, zaoaa, zaoab, zaoac, i64_w, i32_w]
         rfl
        refine done_ (done_of HT_.out (by kernel_rfl)) ?_
        try go_wp2
        go_ret
        exact ⟨by first | rfl | (simp [errW_none, errW_some] <;> rfl) | (simp [*, errW_none, errW_some] <;> rfl), zh0 HB⟩
      ·rw [if_neg c6] at H
       exact absurd H (by simp)
     ·rw [if_neg c5] at H
      exact absurd H (by simp)
    ·rw [if_neg c4] at H
     have c4b0 : decide (zaoag < (l0.length : Int)) = false := decide_eq_false c4
     clear c4
     obtain rfl := Option.some.inj H
     go_wp2
     go_ret
     exact ⟨by first | rfl | (simp [errW_none, errW_some] <;> rfl) | (simp [*, errW_none, errW_some] <;> rfl), zh0 HB⟩
 ·rw [if_neg c3] at H
  have c3b0 : ((l0.length : Int) == (l1.length : Int)) = false := beq_eq_false_iff_ne.mpr c3
  have c3b1 : ((l0.length : Int) != (l1.length : Int)) = true := bne_iff_ne.mpr c3
  have c3b2 : (l0.length == l1.length) = false := by first | simpa using c3 | (simp at c3 ⊢; omega)
  obtain rfl := Option.some.inj H
  go_enter Try.func21, Try.ntmps21
  go_wp2
  go_ret
  exact ⟨by first | rfl | (simp [errW_none, errW_some] <;> rfl) | (simp [*, errW_none, errW_some] <;> rfl), zh0 HB⟩

end Go.Proofs.Ytmpnaaegahjfkaa.Q