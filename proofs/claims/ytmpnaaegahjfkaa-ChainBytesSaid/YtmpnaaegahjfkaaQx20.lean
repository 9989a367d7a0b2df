

/- Written by a program of this session (wip/patch_print.py over the kit's print): functions of the given program as plain Lean functions, and that each call does what its function says, under no further conditions. -/
import Derived.Test.YtmpnaaegahjfkaaQx0
namespace Go.Proofs.Ytmpnaaegahjfkaa.Q
open Go.RowKit Go.Proofs.YtmpnaaegahjfkaaW.PrintWords Go.Proofs.YtmpnaaegahjfkaaW.PrintLast Go.Proofs.YtmpnaaegahjfkaaW.PrintMore
attribute [local go_sem] max2_int min2_int max_two min_two max_three min_three max_four min_four   -- for this text's walks alone
set_option linter.unusedVariables false
set_option linter.unusedSimpArgs false
attribute [local go_sem] xor_ones_u8 xor_ones_u16 xor_ones_u32 xor_ones_u64 cell_twice frozen_twice
abbrev zauaa := @List.setIfInBounds_toArray
abbrev zauab := @List.set_cons_zero
abbrev zauac := @List.set_cons_succ
abbrev zauad := @World.block_lt_of_cell?
abbrev zauae := @pw_below_drewN
abbrev zauaf := @below_drew1
abbrev zauag := @below_alloc
abbrev zauah := @Aside0.mk
abbrev zausq0 : Array Bool := #[false, false, false, false, false, false, false, false, false, false, false]
abbrev zausq1 : Array Bool := #[true, false, false, false, false, false, false, false, false, false, false]
abbrev zausq2 : Array Bool := #[true, true, false, false, false, false, false, false, false, false, false]
abbrev zausq3 : Array Bool := #[true, true, true, false, false, false, false, false, false, false, false]
abbrev zausq4 : Array Bool := #[true, true, true, true, false, false, false, false, false, false, false]
abbrev zausq5 : Array Bool := #[true, true, true, true, false, false, true, false, false, false, false]
abbrev zausq6 : Array Bool := #[true, true, true, true, false, false, true, true, false, false, false]
abbrev zausq7 : Array Bool := #[true, true, true, true, true, true, true, true, true, false, false]
abbrev zausq8 : Array Bool := #[true, true, true, true, true, false, true, true, false, false, false]
abbrev zausq9 : Array Bool := #[true, true, true, true, false, false, true, true, true, false, false]
abbrev zausq10 : Array Bool := #[true, true, true, true, true, true, true, true, false, false, false]
abbrev zausq11 : Array Bool := #[true, true, true, true, true, false, true, true, true, false, false]
abbrev zausq12 : Array Bool := #[true, true, true, true, true, true, true, true, true, true, false]
abbrev zausq13 : Array Bool := #[true, true, true, true, true, true, true, true, true, true, true]
abbrev zausq14 : Array Bool := #[false, false, false, false, false, false, false, false, false, false, false, false, false, false, false, false, false]
abbrev zausq15 : Array Bool := #[true, false, false, false, false, false, false, false, false, false, false, false, false, false, false, false, false]
abbrev zausq16 : Array Bool := #[true, true, false, false, false, false, false, false, false, false, false, false, false, false, false, false, false]
abbrev zausq17 : Array Bool := #[true, true, true, false, false, false, false, false, false, false, false, false, false, false, false, false, false]
abbrev zausq18 : Array Bool := #[true, true, true, true, false, false, false, false, false, false, false, false, false, false, false, false, false]
abbrev zausq19 : Array Bool := #[true, true, true, true, true, false, false, false, false, false, false, false, false, false, false, false, false]
abbrev zausq20 : Array Bool := #[true, true, true, true, true, false, false, false, true, false, false, false, false, false, false, false, false]
abbrev zausq21 : Array Bool := #[true, true, true, true, true, false, false, false, true, true, false, false, false, false, false, false, false]
abbrev zausq22 : Array Bool := #[true, true, true, true, true, false, false, false, true, true, true, false, false, false, false, false, false]
abbrev zausq23 : Array Bool := #[true, true, true, true, true, false, false, false, true, true, true, true, false, false, false, false, false]
abbrev zausq24 : Array Bool := #[true, true, true, true, true, true, false, false, true, true, true, true, false, false, false, false, false]
abbrev zausq25 : Array Bool := #[true, true, true, true, true, true, false, false, true, true, true, true, true, false, false, false, false]
abbrev zausq26 : Array Bool := #[true, true, true, true, true, true, false, false, true, true, true, true, true, true, false, false, false]
abbrev zausq27 : Array Bool := #[true, true, true, true, true, true, true, false, true, true, true, true, true, true, false, false, false]
abbrev zausq28 : Array Bool := #[true, true, true, true, true, true, true, true, true, true, true, true, true, true, false, false, false]
abbrev zausq29 : Array Bool := #[true, true, true, true, true, true, true, true, true, true, true, true, true, true, true, false, false]
abbrev zausq30 : Array Bool := #[true, true, true, true, true, true, true, true, true, true, true, true, true, true, true, true, false]
abbrev zausq31 : Array Bool := #[true, true, true, true, true, true, true, true, true, true, true, true, true, true, true, true, true]
/-! ### stowageref01_Number: function 44 -/
def stowageref01_Number.f : Nat → Int → Option (ByteArray)
 | 0, _ => none
 | k + 1, a0 => if a0 < 128 then (some (strOfNums (([(a0) % 256] : List Int)))) else ((some (([(IntKind.u64.wrap ((Int.tmod a0 128) + 128)) % 256] : List Int) : List Int)).bind fun y446 => ((stowageref01_Number.f k (IntKind.u64.wrap (Int.tdiv a0 128))).bind fun t449 => (if (strOfNums y446).size + t449.size ≤ 9223372036854775807 then (some ((strOfNums y446) ++ t449)) else (none))))
def stowageref01_Number.T3 : Bool × List (List Nat × List Nat) := (true, [([], []), ([0], [0]), ([1], [1]), ([2], [2]), ([3], [3]), ([4], [4]), ([], []), ([6], [6]), ([7], [7]), ([5, 8], [5, 8]), ([9, 8, 0, 1, 2, 3, 4, 5, 6, 7, 8, 9], [9])])
def stowageref01_Number.B3 : List Nat := [0, 1, 3, 7, 15, 31, 0, 64, 192, 511, 1023]
theorem stowageref01_Number.tab3 : rtab .any (opsOf Try.f44 3) = stowageref01_Number.T3 := by kernel_rfl
theorem stowageref01_Number.bits3 : waitsOk stowageref01_Number.T3.2 stowageref01_Number.B3 = true := by kernel_rfl
set_option maxHeartbeats 8000000 in
set_option maxRecDepth 100000 in
theorem stowageref01_Number.calls (k : Nat) : ∀ (a0 : Int) (r : ByteArray) (w : World) (h : stowageref01_Number.f k a0 = some r),
  Calls Try.prog 44 #[.int .u64 a0] w fun e w' => e = .returned (.string r) ∧ Below w.heap.size w w' := by
 induction k using Nat.strongRecOn with
 | _ k ih =>
 intro a0 r w h
 cases k with
 | zero => exact absurd h (by simp [stowageref01_Number.f])
 | succ k =>
 simp only [stowageref01_Number.f] at h
 have HB := zauah (Below.refl w.heap.size w)
 have H : (if a0 < 128 then (some (strOfNums (([(a0) % 256] : List Int)))) else ((some (([(IntKind.u64.wrap ((Int.tmod a0 128) + 128)) % 256] : List Int) : List Int)).bind fun y446 => ((stowageref01_Number.f k (IntKind.u64.wrap (Int.tdiv a0 128))).bind fun t449 => (if (strOfNums y446).size + t449.size ≤ 9223372036854775807 then (some ((strOfNums y446) ++ t449)) else (none))))) = some r := h
 clear h
 by_cases c2 : a0 < 128
 ·rw [if_pos c2] at H
  have c2b0 : decide (a0 < 128) = true := decide_eq_true c2
  clear c2
  obtain ⟨y443, hy443⟩ : ∃ y_ : List Int, y_ = (([(a0) % 256] : List Int)) := ⟨_, rfl⟩
  replace H : (some (strOfNums y443)) = some r := by first | (rw [hy443]; with_reducible exact H) | (have H2_ := (Option.bind_some _ _).symm.trans H; rw [hy443]; with_reducible exact H2_) | (have H2_ := (Option.bind_some _ _).symm.trans H; with_reducible exact H2_) | with_reducible exact H | (rw [hy443]; exact H) | exact H
  have Ny443 := zauah hy443
  clear hy443
  obtain rfl := Option.some.inj H
  go_enter Try.func44, Try.ntmps44
  go_wp2_with (first | ((with_reducible refine gate_dst (N := 7) rfl ?_); refine Kd.R_lit (Kd.int .u8) _ 5 ?hg (N := 7) ?hd (xs := ([(a0) % 256] : List Int)) (inner := [.int .u8 ((a0) % 256)]) (ok := fun _ => True) (okp := fun _ => True) ?hr ?hp (fun _ hk => hk) trivial (Below.refl _ _) (Nat.le_refl _) (by simp) ?_; (case hd => rfl); (case hg => rfl); (case hr => first | (go_simp; done) | (go_simp; rfl)); (case hp => exact (Reps.one (show Kd.M (Kd.int .u8) _ _ _ ((a0) % 256) [.int .u8 ((a0) % 256)] from rfl) (Reps.none _ _))); intro v444 w3 ho4 hb hg_ hnew_; clear hg_ hnew_; (first | rw [← Ny443.out] at ho4 | (simp only [Int.reduceToNat] at ho4; rw [← Ny443.out] at ho4)); have n0_ := zauah (Kd.R_lower ho4 (below_size (zh0 HB))); have n1_ := zauah (below_step (zh0 HB) hb); clear HB; have HO445 := n0_; have HB := n1_; clear n0_ n1_; clear hb ho4; have hcv5 := own_string (P := Try.prog) Try.underlying102 Try.underlying5 Try.underlying9 (Kd.own_of_R HO445.out)))
  go_ret
  exact ⟨by first | rfl | (simp [errW_none, errW_some] <;> rfl) | (simp [*, errW_none, errW_some] <;> rfl), zh0 HB⟩
 ·rw [if_neg c2] at H
  have c2b0 : decide (a0 < 128) = false := decide_eq_false c2
  clear c2
  obtain ⟨y446, hy446⟩ : ∃ y_ : List Int, y_ = (([(IntKind.u64.wrap ((Int.tmod a0 128) + 128)) % 256] : List Int)) := ⟨_, rfl⟩
  replace H : ((stowageref01_Number.f k (IntKind.u64.wrap (Int.tdiv a0 128))).bind fun t449 => (if (strOfNums y446).size + t449.size ≤ 9223372036854775807 then (some ((strOfNums y446) ++ t449)) else (none))) = some r := by first | (rw [hy446]; with_reducible exact H) | (have H2_ := (Option.bind_some _ _).symm.trans H; rw [hy446]; with_reducible exact H2_) | (have H2_ := (Option.bind_some _ _).symm.trans H; with_reducible exact H2_) | with_reducible exact H | (rw [hy446]; exact H) | exact H
  have Ny446 := zauah hy446
  clear hy446
  replace H := Option.bind_eq_some_iff.mp H
  obtain ⟨t449, A60, H⟩ := H
  replace H : (if (strOfNums y446).size + t449.size ≤ 9223372036854775807 then (some ((strOfNums y446) ++ t449)) else (none)) = some r := H
  have A6 := zauah A60
  clear A60
  by_cases c7 : (strOfNums y446).size + t449.size ≤ 9223372036854775807
  ·rw [if_pos c7] at H
   have c7b0 := eq_true c7
   have c7b1 : decide ((strOfNums y446).size + t449.size ≤ 9223372036854775807) = true := decide_eq_true c7
   try have c7b2 : (9223372036854775807 < (strOfNums y446).size + t449.size) = False := eq_false (Nat.not_lt.2 c7)
   obtain rfl := Option.some.inj H
   go_enter Try.func44, Try.ntmps44
   try go_wp2
   have n0_ := zauah (zauaf HB.out)
   clear HB
   have HB := n0_
   clear n0_
   refine start_ (n := 11) (S := fun w' => True) (ds := []) zausq0 (by kernel_rfl) rfl rfl trivial (fun hHeld => ?_); refine with_tabW stowageref01_Number.tab3 stowageref01_Number.bits3 (fun HT_ HW_ => ?_)
   generalize w.drew = w8 at HB hHeld ⊢
   refine pure_ (i := 0) (N := some 9) (v := ?_) (a' := ?_) zausq1 rfl rfl (any_of HT_.out (by kernel_rfl)) (fun _ _ _ h => h) (Or.inl ⟨by rfl, ?_⟩) ?_ ?_
   rotate_left
   ·intro w'
    go_simp
    with_reducible rfl
   rotate_left
   ·simp only [Act.put, zauaa, zauab, zauac, i64_w, i32_w]
    rfl
   refine pure_ (i := 1) (N := some 10) (v := ?_) (a' := ?_) zausq2 rfl rfl (any_of HT_.out (by kernel_rfl)) (fun _ _ _ h => h) (Or.inl ⟨by rfl, ?_⟩) ?_ ?_
   rotate_left
   ·intro w'
    go_simp
    with_reducible rfl
   rotate_left
   ·simp only [Act.put, zauaa, zauab, zauac, i64_w, i32_w]
    rfl
   refine pure_ (i := 2) (N := some 11) (v := ?_) (a' := ?_) zausq3 rfl rfl (any_of HT_.out (by kernel_rfl)) (fun _ _ _ h => h) (Or.inl ⟨by rfl, ?_⟩) ?_ ?_
   rotate_left
   ·intro w'
    go_simp
    with_reducible rfl
   rotate_left
   ·simp only [Act.put, zauaa, zauab, zauac, i64_w, i32_w]
    rfl
   refine pure_ (i := 3) (N := some 12) (v := ?_) (a' := ?_) zausq4 rfl rfl (any_of HT_.out (by kernel_rfl)) (fun _ _ _ h => h) (Or.inl ⟨by rfl, ?_⟩) ?_ ?_
   rotate_left
   ·intro w'
    go_simp
    with_reducible rfl
   rotate_left
   ·simp only [Act.put, zauaa, zauab, zauac, i64_w, i32_w]
    rfl
   refine pure_ (i := 6) (N := some 15) (v := ?_) (a' := ?_) zausq5 rfl rfl (any_of HT_.out (by kernel_rfl)) (fun _ _ _ h => h) (Or.inl ⟨by rfl, ?_⟩) ?_ ?_
   rotate_left
   ·intro w'
    go_simp
    with_reducible rfl
   rotate_left
   ·simp only [Act.put, zauaa, zauab, zauac, i64_w, i32_w]
    rfl
   refine pure_ (i := 7) (N := some 16) (v := ?_) (a' := ?_) zausq6 rfl rfl (any_of HT_.out (by kernel_rfl)) (fun _ _ _ h => h) (Or.inl ⟨by rfl, ?_⟩) ?_ ?_
   rotate_left
   ·intro w'
    go_simp
    with_reducible rfl
   rotate_left
   ·simp only [Act.put, zauaa, zauab, zauac, i64_w, i32_w]
    rfl
   refine join_ (σ := Value) 2 zausq7 (fun s_ => [(13, s_), (14, .string (strOfNums y446)), (17, .string t449)]) (fun s_ w' => (Kd.R (Kd.int .u8) 5 w' w.heap.size (fun _ => True) s_ y446) ∧ (Below w.heap.size w w')) ?_ ?_
   rotate_left
   ·intro hCont
    refine two_ (i := 4) (j := 8) (Ni := some 13) (Nj := some 17) zausq8 zausq9 rfl rfl rfl rfl (two_of HT_.out (by kernel_rfl)) (by decide) (by decide) (fun K hK => ?_) (fun K hK => ?_)
    ·skip
     refine Kd.R_lit_step (Kd.int .u8) _ 5 ?hg (N := 13) ?hd (xs := ([(IntKind.u64.wrap ((Int.tmod a0 128) + 128)) % 256] : List Int)) (inner := [.int .u8 ((IntKind.u64.wrap ((Int.tmod a0 128) + 128)) % 256)]) (ok := fun _ => True) (okp := fun _ => True) ?hr ?hp (fun _ hk => hk) trivial (Below.refl _ _) (Nat.le_refl _) (by simp) ?_; (case hd => rfl); (case hg => rfl); (case hr => first | (go_simp; done) | (go_simp; rfl)); (case hp => exact (Reps.one (show Kd.M (Kd.int .u8) _ _ _ ((IntKind.u64.wrap ((Int.tmod a0 128) + 128)) % 256) [.int .u8 ((IntKind.u64.wrap ((Int.tmod a0 128) + 128)) % 256)] from rfl) (Reps.none _ _)))
     intro v447 w9 ho10 hb hg_ hnew_
     clear hg_ hnew_
     (first | rw [← Ny446.out] at ho10 | (simp only [Int.reduceToNat] at ho10; rw [← Ny446.out] at ho10))
     have n0_ := zauah (Kd.R_lower ho10 (below_size (zh0 HB)))
     have n1_ := zauah (below_step (zh0 HB) hb)
     clear HB
     have HO448 := n0_
     have HB := n1_
     clear n0_ n1_
     clear hb ho10
     refine hK.out _ _ trivial (fun hHeld => ?_)
     clear hK K
     refine norm_ (a' := ?_) ?_ ?_
     rotate_left
     ·show Act.put _ (some 13) _ = _
      simp only [Act.put, zauaa, zauab, zauac, i64_w, i32_w]
      rfl
     refine two_ (i := 5) (j := 8) (Ni := some 14) (Nj := some 17) zausq10 zausq11 rfl rfl rfl rfl (two_of HT_.out (by kernel_rfl)) (by decide) (by decide) (fun K hK => ?_) (fun K hK => ?_)
     ·skip
      have hcv11 := own_string (P := Try.prog) Try.underlying102 Try.underlying5 Try.underlying9 (Kd.own_of_R HO448.out)
      refine value_ (w1 := ?_) (v := ?_) (by rfl) rfl ?_ ?_
      rotate_left 2
      ·go_simp
       constructor
       ·rfl
       ·rfl
      clear hcv11
      refine hK.out _ _ trivial (fun hHeld => ?_)
      clear hK K
      refine norm_ (a' := ?_) ?_ ?_
      rotate_left
      ·show Act.put _ (some 14) _ = _
       simp only [Act.put, zauaa, zauab, zauac, i64_w, i32_w]
       rfl
      refine one_ (i := 8) (N := some 17) zausq7 rfl rfl (one_of HT_.out (by kernel_rfl)) (by decide) (fun K hK => ?_)
      refine goes_ Try.func44 (by kernel_rfl) rfl #[.int .u64 (IntKind.u64.wrap (Int.tdiv a0 128))] (by rfl) rfl rfl (by (try simp only [List.map_toArray, List.map_cons, List.map_nil]); first | done | rfl) ?_
      with_reducible refine (ih k (by omega) (IntKind.u64.wrap (Int.tdiv a0 128)) t449 _ A6.out).mono ?_
      rintro e w12 ⟨rfl, hb⟩
      refine ⟨_, rfl, ?_⟩
      have n0_ := zauah (Kd.R_below (zrk HO448) hb)
      have n1_ := zauah (below_step (zh0 HB) hb)
      clear HO448
      clear HB
      have HO448 := n0_
      have HB := n1_
      clear n0_ n1_
      (try clear hb)
      (try clear hb2)
      (try clear hk)
      (try clear hi)
      refine hK.out _ _ trivial (fun hHeld => ?_)
      clear hK K
      refine norm_ (a' := ?_) ?_ ?_
      rotate_left
      ·show Act.put _ (some 17) _ = _
       simp only [Act.put, zauaa, zauab, zauac, i64_w, i32_w]
       rfl
      exact norm_ (by simp only [putAll, Act.put, zauaa, zauab, zauac]) (hCont (v447) _ ⟨(zrk HO448), (zh0 HB)⟩)
     ·skip
      refine goes_ Try.func44 (by kernel_rfl) rfl #[.int .u64 (IntKind.u64.wrap (Int.tdiv a0 128))] (by rfl) rfl rfl (by (try simp only [List.map_toArray, List.map_cons, List.map_nil]); first | done | rfl) ?_
      with_reducible refine (ih k (by omega) (IntKind.u64.wrap (Int.tdiv a0 128)) t449 _ A6.out).mono ?_
      rintro e w11 ⟨rfl, hb⟩
      refine ⟨_, rfl, ?_⟩
      have n0_ := zauah (Kd.R_below (zrk HO448) hb)
      have n1_ := zauah (below_step (zh0 HB) hb)
      clear HO448
      clear HB
      have HO448 := n0_
      have HB := n1_
      clear n0_ n1_
      (try clear hb)
      (try clear hb2)
      (try clear hk)
      (try clear hi)
      refine hK.out _ _ trivial (fun hHeld => ?_)
      clear hK K
      refine norm_ (a' := ?_) ?_ ?_
      rotate_left
      ·show Act.put _ (some 17) _ = _
       simp only [Act.put, zauaa, zauab, zauac, i64_w, i32_w]
       rfl
      refine one_ (i := 5) (N := some 14) zausq7 rfl rfl (one_of HT_.out (by kernel_rfl)) (by decide) (fun K hK => ?_)
      have hcv12 := own_string (P := Try.prog) Try.underlying102 Try.underlying5 Try.underlying9 (Kd.own_of_R HO448.out)
      refine value_ (w1 := ?_) (v := ?_) (by rfl) rfl ?_ ?_
      rotate_left 2
      ·go_simp
       constructor
       ·rfl
       ·rfl
      clear hcv12
      refine hK.out _ _ trivial (fun hHeld => ?_)
      clear hK K
      refine norm_ (a' := ?_) ?_ ?_
      rotate_left
      ·show Act.put _ (some 14) _ = _
       simp only [Act.put, zauaa, zauab, zauac, i64_w, i32_w]
       rfl
      exact norm_ (by simp only [putAll, Act.put, zauaa, zauab, zauac]) (hCont (v447) _ ⟨(zrk HO448), (zh0 HB)⟩)
    ·skip
     refine goes_ Try.func44 (by kernel_rfl) rfl #[.int .u64 (IntKind.u64.wrap (Int.tdiv a0 128))] (by rfl) rfl rfl (by (try simp only [List.map_toArray, List.map_cons, List.map_nil]); first | done | rfl) ?_
     with_reducible refine (ih k (by omega) (IntKind.u64.wrap (Int.tdiv a0 128)) t449 _ A6.out).mono ?_
     rintro e w9 ⟨rfl, hb⟩
     refine ⟨_, rfl, ?_⟩
     have n0_ := zauah (below_step (zh0 HB) hb)
     clear HB
     have HB := n0_
     clear n0_
     (try clear hb)
     (try clear hb2)
     (try clear hk)
     (try clear hi)
     refine hK.out _ _ trivial (fun hHeld => ?_)
     clear hK K
     refine norm_ (a' := ?_) ?_ ?_
     rotate_left
     ·show Act.put _ (some 17) _ = _
      simp only [Act.put, zauaa, zauab, zauac, i64_w, i32_w]
      rfl
     refine one_ (i := 4) (N := some 13) zausq11 rfl rfl (one_of HT_.out (by kernel_rfl)) (by decide) (fun K hK => ?_)
     refine Kd.R_lit_step (Kd.int .u8) _ 5 ?hg (N := 13) ?hd (xs := ([(IntKind.u64.wrap ((Int.tmod a0 128) + 128)) % 256] : List Int)) (inner := [.int .u8 ((IntKind.u64.wrap ((Int.tmod a0 128) + 128)) % 256)]) (ok := fun _ => True) (okp := fun _ => True) ?hr ?hp (fun _ hk => hk) trivial (Below.refl _ _) (Nat.le_refl _) (by simp) ?_; (case hd => rfl); (case hg => rfl); (case hr => first | (go_simp; done) | (go_simp; rfl)); (case hp => exact (Reps.one (show Kd.M (Kd.int .u8) _ _ _ ((IntKind.u64.wrap ((Int.tmod a0 128) + 128)) % 256) [.int .u8 ((IntKind.u64.wrap ((Int.tmod a0 128) + 128)) % 256)] from rfl) (Reps.none _ _)))
     intro v447 w10 ho11 hb hg_ hnew_
     clear hg_ hnew_
     (first | rw [← Ny446.out] at ho11 | (simp only [Int.reduceToNat] at ho11; rw [← Ny446.out] at ho11))
     have n0_ := zauah (Kd.R_lower ho11 (below_size (zh0 HB)))
     have n1_ := zauah (below_step (zh0 HB) hb)
     clear HB
     have HO448 := n0_
     have HB := n1_
     clear n0_ n1_
     clear hb ho11
     refine hK.out _ _ trivial (fun hHeld => ?_)
     clear hK K
     refine norm_ (a' := ?_) ?_ ?_
     rotate_left
     ·show Act.put _ (some 13) _ = _
      simp only [Act.put, zauaa, zauab, zauac, i64_w, i32_w]
      rfl
     refine one_ (i := 5) (N := some 14) zausq7 rfl rfl (one_of HT_.out (by kernel_rfl)) (by decide) (fun K hK => ?_)
     have hcv12 := own_string (P := Try.prog) Try.underlying102 Try.underlying5 Try.underlying9 (Kd.own_of_R HO448.out)
     refine value_ (w1 := ?_) (v := ?_) (by rfl) rfl ?_ ?_
     rotate_left 2
     ·go_simp
      constructor
      ·rfl
      ·rfl
     clear hcv12
     refine hK.out _ _ trivial (fun hHeld => ?_)
     clear hK K
     refine norm_ (a' := ?_) ?_ ?_
     rotate_left
     ·show Act.put _ (some 14) _ = _
      simp only [Act.put, zauaa, zauab, zauac, i64_w, i32_w]
      rfl
     exact norm_ (by simp only [putAll, Act.put, zauaa, zauab, zauac]) (hCont (v447) _ ⟨(zrk HO448), (zh0 HB)⟩)
   rintro v447 w13 ⟨h0_, h1_⟩
   have n0_ : Aside0 (Kd.R (Kd.int .u8) 5 w13 w.heap.size (fun _ => True) v447 y446) := ⟨h0_⟩
   have n1_ : Aside0 (Below w.heap.size w w13) := ⟨h1_⟩
   clear HB
   clear h0_ h1_
   have HO448 := n0_
   have HB := n1_
   clear n0_ n1_
   have hHeld := trivial
   refine norm_ (a' := ?_) ?_ ?_
   rotate_left
   ·simp only [putAll, Act.put, zauaa, zauab, zauac]
    rfl
   refine pure_ (i := 9) (N := some 18) (v := ?_) (a' := ?_) zausq12 rfl rfl (any_of HT_.out (by kernel_rfl)) (fun _ _ _ h => h) (Or.inl ⟨by rfl, ?_⟩) ?_ ?_
   rotate_left
   ·intro w'
    go_simp
    with_reducible rfl
   rotate_left
   ·simp only [Act.put, zauaa, zauab, zauac, i64_w, i32_w]
    rfl
   refine pure_ (i := 10) (N := some 2) (v := ?_) (a' := ?_) zausq13 rfl rfl (any_of HT_.out (by kernel_rfl)) (fun _ _ _ h => h) (Or.inl ⟨by rfl, ?_⟩) ?_ ?_
   rotate_left
   ·intro w'
    go_simp
    with_reducible rfl
   rotate_left
   ·simp only [Act.put, zauaa, zauab, zauac, i64_w, i32_w]
    rfl
   refine done_ (done_of HT_.out (by kernel_rfl)) ?_
   try go_wp2
   go_ret
   exact ⟨by first | rfl | (simp [errW_none, errW_some] <;> rfl) | (simp [*, errW_none, errW_some] <;> rfl), zh0 HB⟩
  ·rw [if_neg c7] at H
   exact absurd H (by simp)

/-! ### stowageref01_Text: function 46 -/
def stowageref01_Text.f (k : Nat) (a0 : ByteArray) : Option (ByteArray) := (stowageref01_Number.f k (IntKind.u64.wrap ((a0.size : Int)))).bind fun t450 => (if t450.size + a0.size ≤ 9223372036854775807 then (some (t450 ++ a0)) else (none))
set_option maxHeartbeats 8000000 in
set_option maxRecDepth 100000 in
theorem stowageref01_Text.calls (k : Nat) (a0 : ByteArray) (r : ByteArray) (w : World) (h : stowageref01_Text.f k a0 = some r) :
  Calls Try.prog 46 #[.string a0] w fun e w' => e = .returned (.string r) ∧ Below w.heap.size w w' := by
 have HB := zauah (Below.refl w.heap.size w)
 have H : ((stowageref01_Number.f k (IntKind.u64.wrap ((a0.size : Int)))).bind fun t450 => (if t450.size + a0.size ≤ 9223372036854775807 then (some (t450 ++ a0)) else (none))) = some r := h
 clear h
 replace H := Option.bind_eq_some_iff.mp H
 obtain ⟨t450, A20, H⟩ := H
 replace H : (if t450.size + a0.size ≤ 9223372036854775807 then (some (t450 ++ a0)) else (none)) = some r := H
 have A2 := zauah A20
 clear A20
 by_cases c3 : t450.size + a0.size ≤ 9223372036854775807
 ·rw [if_pos c3] at H
  have c3b0 := eq_true c3
  have c3b1 : decide (t450.size + a0.size ≤ 9223372036854775807) = true := decide_eq_true c3
  try have c3b2 : (9223372036854775807 < t450.size + a0.size) = False := eq_false (Nat.not_lt.2 c3)
  obtain rfl := Option.some.inj H
  go_enter Try.func46, Try.ntmps46
  go_wp2_with (first | ((with_reducible refine gate_callee (f := 44) rfl ?_); refine goesL_ (some 6) rfl rfl Try.func44 (by kernel_rfl) rfl #[.int .u64 (IntKind.u64.wrap ((a0.size : Int)))] rfl (by (try simp only [List.map_toArray, List.map_cons, List.map_nil]); first | done | rfl | (rw [IntWalk.u64_in ((a0.size : Int)) (by first | omega | (simp only [decide_eq_false_iff_not, decide_eq_true_eq] at *; omega))]; rfl)) ?_; (with_reducible refine (stowageref01_Number.calls k (IntKind.u64.wrap ((a0.size : Int))) t450 _ A2.out).mono ?_); rintro e w4 ⟨rfl, hb⟩; refine ⟨_, rfl, ?_⟩; have n0_ := zauah (below_step (zh0 HB) hb); clear HB; have HB := n0_; clear n0_; (try clear hb); (try clear hk); (try clear hi)))
  go_ret
  exact ⟨by first | rfl | (simp [errW_none, errW_some] <;> rfl) | (simp [*, errW_none, errW_some] <;> rfl), zh0 HB⟩
 ·rw [if_neg c3] at H
  exact absurd H (by simp)

/-! ### stowageref13_Told: function 45 -/
def stowageref13_Told.l0 : Nat → List (S74) → ByteArray → Int → Option (ByteArray)
 | 0, _, _, _ => none
 | k + 1, x0, x3, x4 => if x4 < (x0.length : Int) then (if 0 ≤ x4 then ((stowageref01_Text.f k ((rd_T74 x0 x4).f0)).bind fun t453 => (if x3.size + t453.size ≤ 9223372036854775807 then ((stowageref01_Number.f k (IntKind.u64.wrap ((rd_T74 x0 x4).f1))).bind fun t455 => (if (x3 ++ t453).size + t455.size ≤ 9223372036854775807 then (stowageref13_Told.l0 k x0 ((x3 ++ t453) ++ t455) (wrap64 (x4 + 1))) else (none))) else (none))) else (none)) else (some x3)
def stowageref13_Told.f (k : Nat) (l0 : List (S74)) : Option (ByteArray) := (stowageref01_Number.f k (IntKind.u64.wrap ((l0.length : Int)))).bind fun t451 => (stowageref13_Told.l0 k l0 t451 0)
def stowageref13_Told.T5 : Bool × List (List Nat × List Nat) := (true, [([], []), ([], []), ([], []), ([1, 2], [1, 2]), ([3], [3]), ([4], [4]), ([5], [5]), ([0, 6], [0, 6]), ([], []), ([], []), ([8, 9], [8, 9]), ([10], [10]), ([11], [11]), ([12], [12]), ([13, 6], [13]), ([7, 14], [7, 14]), ([15, 14, 0, 1, 2, 3, 4, 5, 6, 7, 8, 9, 10, 11, 12, 13, 14, 15], [0, 15])])
def stowageref13_Told.B5 : List Nat := [0, 0, 0, 6, 14, 30, 62, 127, 0, 0, 768, 1792, 3840, 7936, 16254, 32767, 65535]
theorem stowageref13_Told.tab5 : rtab .any (opsOf Try.f45 5) = stowageref13_Told.T5 := by kernel_rfl
theorem stowageref13_Told.bits5 : waitsOk stowageref13_Told.T5.2 stowageref13_Told.B5 = true := by kernel_rfl
set_option maxHeartbeats 8000000 in
set_option maxRecDepth 100000 in
theorem stowageref13_Told.calls (k : Nat) (A0 : Option Addr) (c0 : Nat) (l0 : List (S74)) (r : ByteArray) (w : World) (hr0 : Kd.C k74 w A0 l0.length l0) (hc0 : l0.length ≤ c0) (h : stowageref13_Told.f k l0 = some r) :
  Calls Try.prog 45 #[.slice A0 l0.length c0] w fun e w' => e = .returned (.string r) ∧ Below w.heap.size w w' := by
 have HR0 := zauah hr0
 have HC0 := zauah hc0
 clear hr0 hc0
 have HB := zauah (Below.refl w.heap.size w)
 have H : ((stowageref01_Number.f k (IntKind.u64.wrap ((l0.length : Int)))).bind fun t451 => (stowageref13_Told.l0 k l0 t451 0)) = some r := h
 clear h
 replace H := Option.bind_eq_some_iff.mp H
 obtain ⟨t451, A20, H⟩ := H
 replace H : (stowageref13_Told.l0 k l0 t451 0) = some r := H
 have A2 := zauah A20
 clear A20
 have H' := zauah H
 clear H
 go_enter Try.func45, Try.ntmps45
 go_wp2_with (first | ((with_reducible refine gate_callee (f := 44) rfl ?_); refine goesL_ (some 8) rfl rfl Try.func44 (by kernel_rfl) rfl #[.int .u64 (IntKind.u64.wrap ((l0.length : Int)))] rfl (by (try simp only [List.map_toArray, List.map_cons, List.map_nil]); first | done | rfl | (rw [IntWalk.u64_in ((l0.length : Int)) (by first | omega | (simp only [decide_eq_false_iff_not, decide_eq_true_eq] at *; omega))]; rfl)) ?_; (with_reducible refine (stowageref01_Number.calls k (IntKind.u64.wrap ((l0.length : Int))) t451 _ A2.out).mono ?_); rintro e w3 ⟨rfl, hb⟩; refine ⟨_, rfl, ?_⟩; have n0_ := zauah (below_step (zh0 HB) hb); clear HB; have HB := n0_; clear n0_; (try clear hb); (try clear hk); (try clear hi)))
 go_loopg [3, 4] k (fun kq v3 v4 w' => ∃ (zauaj : ByteArray) (zauai : Int), v3 = .string zauaj ∧ v4 = .int .i64 zauai ∧ Aside0 (stowageref13_Told.l0 kq l0 zauaj zauai = some r) ∧ Aside0 (kq ≤ k) ∧ Aside0 (Below w.heap.size w w'))
 case atStart => exact ⟨(t451), (0), (by first | rfl | (simp; done) | (simp [*]; done)), (by first | rfl | (simp; done) | (simp [*]; done)), H', ⟨Nat.le_refl _⟩, ⟨zh0 HB⟩⟩
 case round =>
  clear H'
  try clear p2
  obtain ⟨zauaj, zauai, rfl, rfl, HA, HK1, HB⟩ := hrel
  cases gk with
  | zero => exact absurd HA.out (by simp [stowageref13_Told.l0])
  | succ k1 =>
   have H := HA.out
   clear HA
   simp only [stowageref13_Told.l0] at H
   by_cases c4 : zauai < (l0.length : Int)
   ·rw [if_pos c4] at H
    have c4b0 : decide (zauai < (l0.length : Int)) = true := decide_eq_true c4
    clear c4
    by_cases c5 : 0 ≤ zauai
    ·rw [if_pos c5] at H
     have c5b0 : decide (0 ≤ zauai) = true := decide_eq_true c5
     clear c5
     replace H := Option.bind_eq_some_iff.mp H
     obtain ⟨t453, A60, H⟩ := H
     replace H : (if zauaj.size + t453.size ≤ 9223372036854775807 then ((stowageref01_Number.f k1 (IntKind.u64.wrap ((rd_T74 l0 zauai).f1))).bind fun t455 => (if (zauaj ++ t453).size + t455.size ≤ 9223372036854775807 then (stowageref13_Told.l0 k1 l0 ((zauaj ++ t453) ++ t455) (wrap64 (zauai + 1))) else (none))) else (none)) = some r := H
     have A6 := zauah A60
     clear A60
     by_cases c7 : zauaj.size + t453.size ≤ 9223372036854775807
     ·rw [if_pos c7] at H
      have c7b0 := eq_true c7
      have c7b1 : decide (zauaj.size + t453.size ≤ 9223372036854775807) = true := decide_eq_true c7
      try have c7b2 : (9223372036854775807 < zauaj.size + t453.size) = False := eq_false (Nat.not_lt.2 c7)
      replace H := Option.bind_eq_some_iff.mp H
      obtain ⟨t455, A80, H⟩ := H
      replace H : (if (zauaj ++ t453).size + t455.size ≤ 9223372036854775807 then (stowageref13_Told.l0 k1 l0 ((zauaj ++ t453) ++ t455) (wrap64 (zauai + 1))) else (none)) = some r := H
      have A8 := zauah A80
      clear A80
      by_cases c9 : (zauaj ++ t453).size + t455.size ≤ 9223372036854775807
      ·rw [if_pos c9] at H
       have c9b0 := eq_true c9
       have c9b1 : decide ((zauaj ++ t453).size + t455.size ≤ 9223372036854775807) = true := decide_eq_true c9
       try have c9b2 : (9223372036854775807 < (zauaj ++ t453).size + t455.size) = False := eq_false (Nat.not_lt.2 c9)
       try have c9b3 : (9223372036854775807 < zauaj.size + t453.size + t455.size) = False := eq_false (by have q_ := c9; simp only [ByteArray.size_append] at q_; omega)
       have H' := zauah H
       clear H
       try go_wp2
       have n0_ := zauah (zauaf HB.out)
       clear HB
       have HB := n0_
       clear n0_
       have p452 : 0 ≤ (zauai : Int) := of_decide_eq_true (by first | (with_reducible assumption) | assumption)
       have q452 : zauai < (l0.length : Int) := of_decide_eq_true (by first | (with_reducible assumption) | assumption)
       obtain ⟨ad452, e452, hx452_0, hx452_1⟩ := at_T74 HR0.out zauai p452 q452
       have hw452_1 := hx452_1
       have hw452_0 := hx452_0
       cases e452
       replace hx452_0 := (HB.out.cell (zauad w _ hx452_0)).trans hx452_0
       replace hx452_1 := (HB.out.cell (zauad w _ hx452_1)).trans hx452_1
       replace p452 := eq_true p452
       replace q452 := eq_true q452
       have p454 : 0 ≤ (zauai : Int) := of_decide_eq_true (by first | (with_reducible assumption) | assumption)
       have q454 : zauai < (l0.length : Int) := of_decide_eq_true (by first | (with_reducible assumption) | assumption)
       obtain ⟨ad454, e454, hx454_0, hx454_1⟩ := at_T74 HR0.out zauai p454 q454
       have hw454_1 := hx454_1
       have hw454_0 := hx454_0
       obtain rfl : ad452 = ad454 := (by injection e454)
       replace hx454_0 := (HB.out.cell (zauad w _ hx454_0)).trans hx454_0
       replace hx454_1 := (HB.out.cell (zauad w _ hx454_1)).trans hx454_1
       replace p454 := eq_true p454
       replace q454 := eq_true q454
       refine start_ (n := 17) (S := fun w' => w'.cell? (ad452.add ((zauai).toNat * 2)) = some (.string ((rd_T74 l0 zauai).f0)) ∧ w'.cell? ⟨(ad452.add ((zauai).toNat * 2)).block, (ad452.add ((zauai).toNat * 2)).off + 1, none⟩ = some (.int .i64 ((rd_T74 l0 zauai).f1)) ∧ w'.cell? (ad452.add ((zauai).toNat * 2)) = some (.string ((rd_T74 l0 zauai).f0)) ∧ w'.cell? ⟨(ad452.add ((zauai).toNat * 2)).block, (ad452.add ((zauai).toNat * 2)).off + 1, none⟩ = some (.int .i64 ((rd_T74 l0 zauai).f1))) (ds := []) zausq14 (by kernel_rfl) rfl rfl ⟨((HB.out.cell (zauad w _ hw452_0)).trans hw452_0), ((HB.out.cell (zauad w _ hw452_1)).trans hw452_1), ((HB.out.cell (zauad w _ hw454_0)).trans hw454_0), ((HB.out.cell (zauad w _ hw454_1)).trans hw454_1)⟩ (fun hHeld => ?_); refine with_tabW stowageref13_Told.tab5 stowageref13_Told.bits5 (fun HT_ HW_ => ?_)
       generalize wr.drew = w10 at HB hx452_0 hx452_1 hx454_0 hx454_1 hHeld ⊢
       refine pure_ (i := 0) (N := some 15) (v := ?_) (a' := ?_) zausq15 rfl rfl (any_of HT_.out (by kernel_rfl)) (fun _ _ _ h => h) (Or.inl ⟨by rfl, ?_⟩) ?_ ?_
       rotate_left
       ·intro w'
        go_simp
        with_reducible rfl
       rotate_left
       ·simp only [Act.put, zauaa, zauab, zauac, i64_w, i32_w]
        rfl
       refine pure_ (i := 1) (N := some 16) (v := ?_) (a' := ?_) zausq16 rfl rfl (any_of HT_.out (by kernel_rfl)) (fun _ _ _ h => h) (Or.inl ⟨by rfl, ?_⟩) ?_ ?_
       rotate_left
       ·intro w'
        go_simp
        with_reducible rfl
       rotate_left
       ·simp only [Act.put, zauaa, zauab, zauac, i64_w, i32_w]
        rfl
       refine pure_ (i := 2) (N := some 17) (v := ?_) (a' := ?_) zausq17 rfl rfl (any_of HT_.out (by kernel_rfl)) (fun _ _ _ h => h) (Or.inl ⟨by rfl, ?_⟩) ?_ ?_
       rotate_left
       ·intro w'
        go_simp
        with_reducible rfl
       rotate_left
       ·simp only [Act.put, zauaa, zauab, zauac, i64_w, i32_w]
        rfl
       refine pure_ (i := 3) (N := some 18) (v := ?_) (a' := ?_) zausq18 rfl rfl (any_of HT_.out (by kernel_rfl)) (fun _ _ _ h => h) (Or.inl ⟨by rfl, ?_⟩) ?_ ?_
       rotate_left
       ·intro w'
        go_simp
        with_reducible rfl
       rotate_left
       ·simp only [Act.put, zauaa, zauab, zauac, i64_w, i32_w]
        rfl
       refine pure_ (i := 4) (N := some 19) (v := ?_) (a' := ?_) zausq19 rfl rfl (any_of HT_.out (by kernel_rfl)) (fun _ _ _ h => h) (Or.inl ⟨by rfl, ?_⟩) ?_ ?_
       rotate_left
       ·intro w'
        go_simp
        with_reducible rfl
       rotate_left
       ·simp only [Act.put, zauaa, zauab, zauac, i64_w, i32_w]
        rfl
       refine pure_ (i := 8) (N := some 23) (v := ?_) (a' := ?_) zausq20 rfl rfl (any_of HT_.out (by kernel_rfl)) (fun _ _ _ h => h) (Or.inl ⟨by rfl, ?_⟩) ?_ ?_
       rotate_left
       ·intro w'
        go_simp
        with_reducible rfl
       rotate_left
       ·simp only [Act.put, zauaa, zauab, zauac, i64_w, i32_w]
        rfl
       refine pure_ (i := 9) (N := some 24) (v := ?_) (a' := ?_) zausq21 rfl rfl (any_of HT_.out (by kernel_rfl)) (fun _ _ _ h => h) (Or.inl ⟨by rfl, ?_⟩) ?_ ?_
       rotate_left
       ·intro w'
        go_simp
        with_reducible rfl
       rotate_left
       ·simp only [Act.put, zauaa, zauab, zauac, i64_w, i32_w]
        rfl
       refine pure_ (i := 10) (N := some 25) (v := ?_) (a' := ?_) zausq22 rfl rfl (any_of HT_.out (by kernel_rfl)) (fun _ _ _ h => h) (Or.inl ⟨by rfl, ?_⟩) ?_ ?_
       rotate_left
       ·intro w'
        go_simp
        with_reducible rfl
       rotate_left
       ·simp only [Act.put, zauaa, zauab, zauac, i64_w, i32_w]
        rfl
       refine pure_ (i := 11) (N := some 26) (v := ?_) (a' := ?_) zausq23 rfl rfl (any_of HT_.out (by kernel_rfl)) (fun _ _ _ h => h) (Or.inl ⟨by rfl, ?_⟩) ?_ ?_
       rotate_left
       ·intro w'
        go_simp
        with_reducible rfl
       rotate_left
       ·simp only [Act.put, zauaa, zauab, zauac, i64_w, i32_w]
        rfl
       refine take_ (i := 5) (N := some 20) (v := ?_) (a' := ?_) zausq24 rfl rfl (take_ofW HT_.out HW_.out (by kernel_rfl)) (fun _ _ _ h => h) (Or.inl ⟨by rfl, ?_⟩) hHeld ?_ ?_
       rotate_left
       ·rintro w' ⟨s0, s1, s2, s3⟩
        go_simp
        with_reducible rfl
       rotate_left
       ·simp only [Act.put, zauaa, zauab, zauac, i64_w, i32_w]
        rfl
       refine take_ (i := 12) (N := some 27) (v := ?_) (a' := ?_) zausq25 rfl rfl (take_ofW HT_.out HW_.out (by kernel_rfl)) (fun _ _ _ h => h) (Or.inl ⟨by rfl, ?_⟩) hHeld ?_ ?_
       rotate_left
       ·rintro w' ⟨s0, s1, s2, s3⟩
        go_simp
        with_reducible rfl
       rotate_left
       ·simp only [Act.put, zauaa, zauab, zauac, i64_w, i32_w]
        rfl
       refine pure_ (i := 13) (N := some 28) (v := ?_) (a' := ?_) zausq26 rfl rfl (any_of HT_.out (by kernel_rfl)) (fun _ _ _ h => h) (Or.inl ⟨by rfl, ?_⟩) ?_ ?_
       rotate_left
       ·intro w'
        go_simp
        with_reducible rfl
       rotate_left
       ·simp only [Act.put, zauaa, zauab, zauac, i64_w, i32_w]
        rfl
       refine one_ (i := 6) (N := some 21) zausq27 rfl rfl (one_of HT_.out (by kernel_rfl)) (by decide) (fun K hK => ?_)
       refine goes_ Try.func46 (by kernel_rfl) rfl #[.string ((rd_T74 l0 zauai).f0)] (by rfl) rfl rfl (by (try simp only [List.map_toArray, List.map_cons, List.map_nil]); first | done | rfl) ?_
       with_reducible refine (stowageref01_Text.calls k1 ((rd_T74 l0 zauai).f0) t453 _ A6.out).mono ?_
       rintro e w11 ⟨rfl, hb⟩
       refine ⟨_, rfl, ?_⟩
       have n0_ := zauah (below_step (zh0 HB) hb)
       clear HB
       have HB := n0_
       clear n0_
       (try clear hb)
       (try clear hb2)
       (try clear hk)
       (try clear hi)
       refine hK.out _ _ ⟨((HB.out.cell (zauad w _ hw452_0)).trans hw452_0), ((HB.out.cell (zauad w _ hw452_1)).trans hw452_1), ((HB.out.cell (zauad w _ hw454_0)).trans hw454_0), ((HB.out.cell (zauad w _ hw454_1)).trans hw454_1)⟩ (fun hHeld => ?_)
       clear hK K
       refine norm_ (a' := ?_) ?_ ?_
       rotate_left
       ·show Act.put _ (some 21) _ = _
        simp only [Act.put, zauaa, zauab, zauac, i64_w, i32_w]
        rfl
       refine pure_ (i := 7) (N := some 22) (v := ?_) (a' := ?_) zausq28 rfl rfl (any_of HT_.out (by kernel_rfl)) (fun _ _ _ h => h) (Or.inl ⟨by rfl, ?_⟩) ?_ ?_
       rotate_left
       ·intro w'
        go_simp
        with_reducible rfl
       rotate_left
       ·simp only [Act.put, zauaa, zauab, zauac, i64_w, i32_w]
        rfl
       refine one_ (i := 14) (N := some 29) zausq29 rfl rfl (one_of HT_.out (by kernel_rfl)) (by decide) (fun K hK => ?_)
       refine goes_ Try.func44 (by kernel_rfl) rfl #[.int .u64 (IntKind.u64.wrap ((rd_T74 l0 zauai).f1))] (by rfl) rfl rfl (by (try simp only [List.map_toArray, List.map_cons, List.map_nil]); first | done | rfl) ?_
       with_reducible refine (stowageref01_Number.calls k1 (IntKind.u64.wrap ((rd_T74 l0 zauai).f1)) t455 _ A8.out).mono ?_
       rintro e w12 ⟨rfl, hb⟩
       refine ⟨_, rfl, ?_⟩
       have n0_ := zauah (below_step (zh0 HB) hb)
       clear HB
       have HB := n0_
       clear n0_
       (try clear hb)
       (try clear hb2)
       (try clear hk)
       (try clear hi)
       refine hK.out _ _ ⟨((HB.out.cell (zauad w _ hw452_0)).trans hw452_0), ((HB.out.cell (zauad w _ hw452_1)).trans hw452_1), ((HB.out.cell (zauad w _ hw454_0)).trans hw454_0), ((HB.out.cell (zauad w _ hw454_1)).trans hw454_1)⟩ (fun hHeld => ?_)
       clear hK K
       refine norm_ (a' := ?_) ?_ ?_
       rotate_left
       ·show Act.put _ (some 29) _ = _
        simp only [Act.put, zauaa, zauab, zauac, i64_w, i32_w]
        rfl
       refine pure_ (i := 15) (N := some 30) (v := ?_) (a' := ?_) zausq30 rfl rfl (any_of HT_.out (by kernel_rfl)) (fun _ _ _ h => h) (Or.inl ⟨by rfl, ?_⟩) ?_ ?_
       rotate_left
       ·intro w'
        go_simp
        with_reducible rfl
       rotate_left
       ·simp only [Act.put, zauaa, zauab, zauac, i64_w, i32_w]
        rfl
       refine pure_ (i := 16) (N := some 3) (v := ?_) (a' := ?_) zausq31 rfl rfl (any_of HT_.out (by kernel_rfl)) (fun _ _ _ h => h) (Or.inl ⟨by rfl, ?_⟩) ?_ ?_
       rotate_left
       ·intro w'
        go_simp
        with_reducible rfl
       rotate_left
       ·simp only [Act.put, zauaa, zauab, zauac, i64_w, i32_w]
        rfl
       refine done_ (done_of HT_.out (by kernel_rfl)) ?_
       try go_wp2
       go_roundg k1
       case measure => have := HK1.out; omega
       case rel => exact ⟨((zauaj ++ t453) ++ t455), (wrap64 (zauai + 1)), (by first | rfl | (simp; done) | (simp [*]; done)), (by first | rfl | (simp; done) | (simp [*]; done)), H', ⟨by have := HK1.out; omega⟩, ⟨zh0 HB⟩⟩
      ·rw [if_neg c9] at H
       exact absurd H (by simp)
     ·rw [if_neg c7] at H
      exact absurd H (by simp)
    ·rw [if_neg c5] at H
     exact absurd H (by simp)
   ·rw [if_neg c4] at H
    have c4b0 : decide (zauai < (l0.length : Int)) = false := decide_eq_false c4
    clear c4
    obtain rfl := Option.some.inj H
    go_wp2
    go_ret
    exact ⟨by first | rfl | (simp [errW_none, errW_some] <;> rfl) | (simp [*, errW_none, errW_some] <;> rfl), zh0 HB⟩

end Go.Proofs.Ytmpnaaegahjfkaa.Q