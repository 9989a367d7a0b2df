/- Written by a program of this session (wip/patch_print.py over the kit's print): functions of the given program as plain Lean functions, and that each call does what its function says, under no further conditions. -/
import Derived.Test.YtodkackgdchocaaQx0
import Derived.Test.YtodkackgdchocaaQx2
namespace Go.Proofs.Ytodkackgdchocaa.Q
open Go.RowKit Go.Proofs.YtodkackgdchocaaW.PrintWords Go.Proofs.YtodkackgdchocaaW.PrintLast Go.Proofs.YtodkackgdchocaaW.PrintMore
attribute [local go_sem] max2_int min2_int max_two min_two max_three min_three max_four min_four   -- for this text's walks alone
set_option linter.unusedVariables false
set_option linter.unusedSimpArgs false

attribute [local go_sem] xor_ones_u8 xor_ones_u16 xor_ones_u32 xor_ones_u64 cell_twice frozen_twice
abbrev yaa := @List.setIfInBounds_toArray
abbrev yab := @List.set_cons_zero
abbrev yac := @List.set_cons_succ
abbrev yad := @blk_drewN
abbrev yae := @blk_alloc
abbrev yaf := @blk_drew
abbrev yag := @below_set
abbrev yah := @pw_below_drewN
abbrev yai := @below_drew1
abbrev yaj := @below_alloc
abbrev yak := @blk_cell
abbrev yal := @blk_frozen
abbrev yam := @cell_far
abbrev yan := @Nat.ne_of_lt
abbrev yao := @Nat.ne_of_gt
abbrev yap := @Aside0.mk
abbrev ysq0 : Array Bool := #[false, false, false, false, false, false, false, false, false, false, false]
abbrev ysq1 : Array Bool := #[false, true, false, false, false, false, false, false, false, false, false]
abbrev ysq2 : Array Bool := #[false, true, true, false, false, false, false, false, false, false, false]
abbrev ysq3 : Array Bool := #[false, true, true, true, false, false, false, false, false, false, false]
abbrev ysq4 : Array Bool := #[false, true, true, true, false, true, false, false, false, false, false]
abbrev ysq5 : Array Bool := #[false, true, true, true, false, true, true, false, false, false, false]
abbrev ysq6 : Array Bool := #[false, true, true, true, false, true, true, true, false, false, false]
abbrev ysq7 : Array Bool := #[false, true, true, true, false, true, true, true, true, false, false]
abbrev ysq8 : Array Bool := #[true, true, true, true, false, true, true, true, true, false, false]
abbrev ysq9 : Array Bool := #[true, true, true, true, true, true, true, true, true, false, false]
abbrev ysq10 : Array Bool := #[true, true, true, true, true, true, true, true, true, true, false]
abbrev ysq11 : Array Bool := #[true, true, true, true, true, true, true, true, true, true, true]
/-! ### stowageref08_without: function 38 -/
def stowageref08_without.f (l0 : List (S60)) (a1 : Int) : Option ((List (S60))) := (some (([] : List (S60)) : List (S60))).bind fun y125 => (if 0 ≤ a1 then (if a1 ≤ (l0.length : Int) then ((some (l0.take (a1 : Int).toNat : List (S60))).bind fun y128 => (if y125.length + y128.length < 4398046511104 then ((some (y125 ++ y128 : List (S60))).bind fun y132 => (if 0 ≤ (wrap64 (a1 + 1)) then (if (wrap64 (a1 + 1)) ≤ (l0.length : Int) then ((some (l0.drop ((wrap64 (a1 + 1)) : Int).toNat : List (S60))).bind fun y135 => (if y132.length + y135.length < 4398046511104 then (some (y132 ++ y135)) else (none))) else (none)) else (none))) else (none))) else (none)) else (none))
def stowageref08_without.T1 : Bool × List (List Nat × List Nat) := (true, [([], []), ([], []), ([], []), ([1, 2], [1, 2]), ([0, 3], [0, 3]), ([], []), ([], []), ([6], [6]), ([5, 7], [5, 7]), ([4, 8, 4], [4, 8]), ([9, 9, 0, 1, 2, 3, 4, 5, 6, 7, 8, 9], [9])])
def stowageref08_without.B1 : List Nat := [0, 0, 0, 6, 15, 0, 0, 64, 224, 511, 1023]
theorem stowageref08_without.tab1 : rtab .any (opsOf Try.f38 1) = stowageref08_without.T1 := by kernel_rfl
theorem stowageref08_without.bits1 : waitsOk stowageref08_without.T1.2 stowageref08_without.B1 = true := by kernel_rfl
set_option maxHeartbeats 8000000 in
set_option maxRecDepth 100000 in
theorem stowageref08_without.calls (A0 : Option Addr) (c0 : Nat) (l0 : List (S60)) (a1 : Int) (r : List (S60)) (w : World) (hr0 : Kd.C k60 w A0 l0.length l0) (hc0 : l0.length ≤ c0) (h : stowageref08_without.f l0 a1 = some r) :
  Calls Try.prog 38 #[.slice A0 l0.length c0, .int .i64 a1] w fun e w' => ∃ v0_ : Value, e = .returned (v0_) ∧ Kd.R k60 60 w' w.heap.size (fun _ => True) v0_ r ∧ Below w.heap.size w w' := by
 have HR0 := yap hr0
 have HC0 := yap hc0
 clear hr0 hc0
 have HB := yap (Below.refl w.heap.size w)
 have H : ((some (([] : List (S60)) : List (S60))).bind fun y125 => (if 0 ≤ a1 then (if a1 ≤ (l0.length : Int) then ((some (l0.take (a1 : Int).toNat : List (S60))).bind fun y128 => (if y125.length + y128.length < 4398046511104 then ((some (y125 ++ y128 : List (S60))).bind fun y132 => (if 0 ≤ (wrap64 (a1 + 1)) then (if (wrap64 (a1 + 1)) ≤ (l0.length : Int) then ((some (l0.drop ((wrap64 (a1 + 1)) : Int).toNat : List (S60))).bind fun y135 => (if y132.length + y135.length < 4398046511104 then (some (y132 ++ y135)) else (none))) else (none)) else (none))) else (none))) else (none)) else (none))) = some r := h
 clear h
 obtain ⟨y125, hy125⟩ : ∃ y_ : List (S60), y_ = (([] : List (S60))) := ⟨_, rfl⟩
 replace H : (if 0 ≤ a1 then (if a1 ≤ (l0.length : Int) then ((some (l0.take (a1 : Int).toNat : List (S60))).bind fun y128 => (if y125.length + y128.length < 4398046511104 then ((some (y125 ++ y128 : List (S60))).bind fun y132 => (if 0 ≤ (wrap64 (a1 + 1)) then (if (wrap64 (a1 + 1)) ≤ (l0.length : Int) then ((some (l0.drop ((wrap64 (a1 + 1)) : Int).toNat : List (S60))).bind fun y135 => (if y132.length + y135.length < 4398046511104 then (some (y132 ++ y135)) else (none))) else (none)) else (none))) else (none))) else (none)) else (none)) = some r := by first | (rw [hy125]; with_reducible exact H) | (have H2_ := (Option.bind_some _ _).symm.trans H; rw [hy125]; with_reducible exact H2_) | (have H2_ := (Option.bind_some _ _).symm.trans H; with_reducible exact H2_) | with_reducible exact H | (rw [hy125]; exact H) | exact H
 have Ny125 := yap hy125
 clear hy125
 by_cases c3 : 0 ≤ a1
 ·rw [if_pos c3] at H
  have c3b0 := eq_true c3
  have c3b1 : decide (0 ≤ a1) = true := decide_eq_true c3
  clear c3
  by_cases c4 : a1 ≤ (l0.length : Int)
  ·rw [if_pos c4] at H
   have c4b0 := eq_true c4
   have c4b1 : decide (a1 ≤ (l0.length : Int)) = true := decide_eq_true c4
   clear c4
   obtain ⟨y128, hy128⟩ : ∃ y_ : List (S60), y_ = (l0.take (a1 : Int).toNat) := ⟨_, rfl⟩
   replace H : (if y125.length + y128.length < 4398046511104 then ((some (y125 ++ y128 : List (S60))).bind fun y132 => (if 0 ≤ (wrap64 (a1 + 1)) then (if (wrap64 (a1 + 1)) ≤ (l0.length : Int) then ((some (l0.drop ((wrap64 (a1 + 1)) : Int).toNat : List (S60))).bind fun y135 => (if y132.length + y135.length < 4398046511104 then (some (y132 ++ y135)) else (none))) else (none)) else (none))) else (none)) = some r := by first | (rw [hy128]; with_reducible exact H) | (have H2_ := (Option.bind_some _ _).symm.trans H; rw [hy128]; with_reducible exact H2_) | (have H2_ := (Option.bind_some _ _).symm.trans H; with_reducible exact H2_) | with_reducible exact H | (rw [hy128]; exact H) | exact H
   have Ny128 := yap hy128
   clear hy128
   by_cases c5 : y125.length + y128.length < 4398046511104
   ·rw [if_pos c5] at H
    have LMc5 := yap c5
    clear c5
    obtain ⟨y132, hy132⟩ : ∃ y_ : List (S60), y_ = (y125 ++ y128) := ⟨_, rfl⟩
    replace H : (if 0 ≤ (wrap64 (a1 + 1)) then (if (wrap64 (a1 + 1)) ≤ (l0.length : Int) then ((some (l0.drop ((wrap64 (a1 + 1)) : Int).toNat : List (S60))).bind fun y135 => (if y132.length + y135.length < 4398046511104 then (some (y132 ++ y135)) else (none))) else (none)) else (none)) = some r := by first | (rw [hy132]; with_reducible exact H) | (have H2_ := (Option.bind_some _ _).symm.trans H; rw [hy132]; with_reducible exact H2_) | (have H2_ := (Option.bind_some _ _).symm.trans H; with_reducible exact H2_) | with_reducible exact H | (rw [hy132]; exact H) | exact H
    have Ny132 := yap hy132
    clear hy132
    obtain ⟨ji6, hji6⟩ : ∃ j_ : Int, (wrap64 (a1 + 1)) = j_ := ⟨_, rfl⟩
    replace H : (if 0 ≤ (ji6) then (if (ji6) ≤ (l0.length : Int) then ((some (l0.drop ((ji6) : Int).toNat : List (S60))).bind fun y135 => (if y132.length + y135.length < 4398046511104 then (some (y132 ++ y135)) else (none))) else (none)) else (none)) = some r := by first | (rw [hji6] at H; exact H) | (simp only [hji6] at H ⊢; exact H)
    have hji6w : (IntKind.i64.wrap (a1 + 1)) = ji6 := (i64_w _).trans hji6
    by_cases c7 : 0 ≤ (ji6)
    ·rw [if_pos c7] at H
     have c7b0 := eq_true c7
     have c7b1 : decide (0 ≤ (ji6)) = true := decide_eq_true c7
     clear c7
     by_cases c8 : (ji6) ≤ (l0.length : Int)
     ·rw [if_pos c8] at H
      have c8b0 := eq_true c8
      have c8b1 : decide ((ji6) ≤ (l0.length : Int)) = true := decide_eq_true c8
      clear c8
      obtain ⟨y135, hy135⟩ : ∃ y_ : List (S60), y_ = (l0.drop ((ji6) : Int).toNat) := ⟨_, rfl⟩
      replace H : (if y132.length + y135.length < 4398046511104 then (some (y132 ++ y135)) else (none)) = some r := by first | (rw [hy135]; with_reducible exact H) | (have H2_ := (Option.bind_some _ _).symm.trans H; rw [hy135]; with_reducible exact H2_) | (have H2_ := (Option.bind_some _ _).symm.trans H; with_reducible exact H2_) | with_reducible exact H | (rw [hy135]; exact H) | exact H
      have Ny135 := yap hy135
      clear hy135
      by_cases c9 : y132.length + y135.length < 4398046511104
      ·rw [if_pos c9] at H
       have LMc9 := yap c9
       clear c9
       obtain ⟨y139, hy139⟩ : ∃ y_ : List (S60), y_ = (y132 ++ y135) := ⟨_, rfl⟩
       replace H : (some y139) = some r := by first | (rw [hy139]; with_reducible exact H) | (have H2_ := (Option.bind_some _ _).symm.trans H; rw [hy139]; with_reducible exact H2_) | (have H2_ := (Option.bind_some _ _).symm.trans H; with_reducible exact H2_) | with_reducible exact H | (rw [hy139]; exact H) | exact H
       have Ny139 := yap hy139
       clear hy139
       obtain rfl := Option.some.inj H
       go_enter Try.func38, Try.ntmps38
       try go_wp2
       have n0_ := yap (yai HB.out)
       clear HB
       have HB := n0_
       clear n0_
       have q11 : (a1 : Int) ≤ ((l0.length : Int) : Int) := of_decide_eq_true (by first | (with_reducible assumption) | assumption)
       obtain ⟨i011, hi011, _, hsz11, _⟩ := info_parts info60
       have hroom11 : l0.length ≤ c0 := HC0.out
       have hC11 : Kd.C k60 _ A0 l0.length l0 := HR0.out
       have hcut11 := cut_to (P := Try.prog) 38 60 .i64 Try.underlying38 hi011 A0 l0.length c0 a1 (of_decide_eq_true (by first | (with_reducible assumption) | assumption)) q11 hroom11
       have hr11 := Kd.C_take (m := (a1 : Int).toNat) hC11 (by omega)
       have hy11 : y128.length = (a1 : Int).toNat := (by rw [Ny128.out, List.length_take]; omega)
       rw [← Ny128.out] at hr11
       rw [← hy11] at hcut11
       have HR131 := yap hr11
       have HC131 := yap (show y128.length ≤ c0 from by omega)
       clear hr11 hC11 hroom11 hi011 hsz11
       have KY11 := yap hy11
       clear hy11
       replace q11 := eq_true q11
       have q12 : ((ji6) : Int) ≤ ((l0.length : Int) : Int) := of_decide_eq_true (by first | (with_reducible assumption) | assumption)
       obtain ⟨i012, hi012, _, hsz12, _⟩ := info_parts info60
       have hroom12 : l0.length ≤ c0 := HC0.out
       have hC12 : Kd.C k60 _ A0 l0.length l0 := HR0.out
       have q012 : (0 : Int) ≤ ((ji6) : Int) := of_decide_eq_true (by first | (with_reducible assumption) | assumption)
       have hcut12 := cut_from (P := Try.prog) 38 60 .i64 Try.underlying38 hi012 3 hsz12 A0 l0.length c0 (ji6) q012 q12
       have hr12 := Kd.C_drop (m := ((ji6) : Int).toNat) (c := c0) hC12 (by omega) hroom12
       obtain ⟨A12, hA12⟩ : ∃ A1, A1 = (if c0 = ((ji6) : Int).toNat then A0 else (A0 : Option Addr).map (·.add (((ji6) : Int).toNat * 3))) := ⟨_, rfl⟩
       obtain ⟨c12, hc12⟩ : ∃ c1, c1 = c0 - ((ji6) : Int).toNat := ⟨_, rfl⟩
       have hy12 : y135.length = l0.length - ((ji6) : Int).toNat := (by rw [Ny135.out, List.length_drop] <;> omega)
       rw [show (l0).drop ((ji6) : Int).toNat = y135 from Ny135.out.symm] at hr12
       replace hr12 : Kd.C k60 _ A12 y135.length y135 := (by rw [hA12]; exact hr12)
       rw [← hy12, ← hA12, ← hc12] at hcut12
       have HR138 := yap hr12
       have HC138 := yap (show y135.length ≤ c12 from by rw [hy12, hc12]; exact Nat.sub_le_sub_right hroom12 _)
       clear hr12 hC12 hroom12 hi012 hsz12 hc12
       have KY12 := yap hy12
       have KA12 := yap hA12
       clear hy12 hA12
       replace q12 := eq_true q12
       refine start_ (n := 11) (S := fun w' => True) (ds := []) ysq0 (by kernel_rfl) rfl rfl trivial (fun hHeld => ?_); refine with_tabW stowageref08_without.tab1 stowageref08_without.bits1 (fun HT_ HW_ => ?_)
       generalize w.drew = w10 at HB HR131 HR138 hHeld ⊢
       refine pure_ (i := 1) (N := some 6) (v := ?_) (a' := ?_) ysq1 rfl rfl (any_of HT_.out (by kernel_rfl)) (fun _ _ _ h => h) (Or.inl ⟨by rfl, ?_⟩) ?_ ?_
       rotate_left
       ·intro w'
        go_simp
        with_reducible rfl
       rotate_left
       ·simp only [Act.put, yaa, yab, yac, i64_w, i32_w]
        rfl
       refine pure_ (i := 2) (N := some 7) (v := ?_) (a' := ?_) ysq2 rfl rfl (any_of HT_.out (by kernel_rfl)) (fun _ _ _ h => h) (Or.inl ⟨by rfl, ?_⟩) ?_ ?_
       rotate_left
       ·intro w'
        go_simp
        with_reducible rfl
       rotate_left
       ·simp only [Act.put, yaa, yab, yac, i64_w, i32_w]
        rfl
       refine pure_ (i := 3) (N := some 8) (v := ?_) (a' := ?_) ysq3 rfl rfl (any_of HT_.out (by kernel_rfl)) (fun _ _ _ h => h) (Or.inl ⟨by rfl, ?_⟩) ?_ ?_
       rotate_left
       ·intro w'
        go_simp
        with_reducible rfl
       rotate_left
       ·simp only [Act.put, yaa, yab, yac, i64_w, i32_w]
        rfl
       refine pure_ (i := 5) (N := some 10) (v := ?_) (a' := ?_) ysq4 rfl rfl (any_of HT_.out (by kernel_rfl)) (fun _ _ _ h => h) (Or.inl ⟨by rfl, ?_⟩) ?_ ?_
       rotate_left
       ·intro w'
        go_simp
        with_reducible rfl
       rotate_left
       ·simp only [Act.put, yaa, yab, yac, i64_w, i32_w]
        rfl
       refine pure_ (i := 6) (N := some 11) (v := ?_) (a' := ?_) ysq5 rfl rfl (any_of HT_.out (by kernel_rfl)) (fun _ _ _ h => h) (Or.inl ⟨by rfl, ?_⟩) ?_ ?_
       rotate_left
       ·intro w'
        go_simp
        with_reducible rfl
       rotate_left
       ·simp only [Act.put, yaa, yab, yac, i64_w, i32_w]
        rfl
       refine pure_ (i := 7) (N := some 12) (v := ?_) (a' := ?_) ysq6 rfl rfl (any_of HT_.out (by kernel_rfl)) (fun _ _ _ h => h) (Or.inl ⟨by rfl, ?_⟩) ?_ ?_
       rotate_left
       ·intro w'
        go_simp
        with_reducible rfl
       rotate_left
       ·simp only [Act.put, yaa, yab, yac, i64_w, i32_w]
        rfl
       refine pure_ (i := 8) (N := some 13) (v := ?_) (a' := ?_) ysq7 rfl rfl (any_of HT_.out (by kernel_rfl)) (fun _ _ _ h => h) (Or.inl ⟨by rfl, ?_⟩) ?_ ?_
       rotate_left
       ·intro w'
        go_simp
        with_reducible rfl
       rotate_left
       ·simp only [Act.put, yaa, yab, yac, i64_w, i32_w]
        rfl
       refine one_ (i := 0) (N := some 5) ysq8 rfl rfl (one_of HT_.out (by kernel_rfl)) (by decide) (fun K hK => ?_)
       refine Kd.R_lit_step k60 _ 60 ?hg (N := 5) ?hd (xs := ([] : List (S60))) (inner := []) (ok := fun _ => True) (okp := fun _ => True) ?hr ?hp (fun _ hk => hk) trivial (Below.refl _ _) (Nat.le_refl _) (by simp) ?_; (case hd => rfl); (case hg => rfl); (case hr => first | (go_simp; done) | (go_simp; rfl)); (case hp => exact (Reps.none _ _))
       intro v126 w13 ho14 hb hg_ hnew_
       clear hg_ hnew_
       (first | rw [← Ny125.out] at ho14 | (simp only [Int.reduceToNat] at ho14; rw [← Ny125.out] at ho14))
       have n0_ := yap (Kd.R_lower ho14 (below_size (by repeat (first | (with_reducible first | exact HB.out | apply yaj | apply yah | apply yai) | exact HB.out))))
       have n1_ := yap (below_step (by repeat (first | (with_reducible first | exact HB.out | apply yaj | apply yah | apply yai) | exact HB.out)) hb)
       clear HB
       have HO127 := n0_
       have HB := n1_
       clear n0_ n1_
       clear hb ho14
       refine hK.out _ _ trivial (fun hHeld => ?_)
       clear hK K
       refine norm_ (a' := ?_) ?_ ?_
       rotate_left
       ·show Act.put _ (some 5) _ = _
        simp only [Act.put, yaa, yab, yac, i64_w, i32_w]
        rfl
       refine one_ (i := 4) (N := some 9) ysq9 rfl rfl (one_of HT_.out (by kernel_rfl)) (by decide) (fun K hK => ?_)
       refine Kd.R_append_rows_step k60 (w0 := w) w.heap.size (by rfl) (.tmp 5) (.tmp 8) 38 60 (.agg #[(.int .i64 0), (.int .i64 0), (.string ⟨#[]⟩)]) 32 rfl Try.underlying38 info60 rfl (by decide) (by omega) v126 y125 y128 _ _ _ (fun _ => True) (fun _ => False) rfl rfl ?aO ?aR (fun _ _ h => h) (fun _ h => h.elim) ?aF ?aB ?aS ?aL ?_
       (case aR => repeat (first | exact (Kd.C_below HR131.out HB.out) | (with_reducible refine Kd.C_alloc ?_ _) | (with_reducible refine Kd.C_drewN ?_ _) | (with_reducible refine Kd.C_drew ?_)))
       (case aB => exact (by repeat (first | (with_reducible first | exact HB.out | apply yaj | apply yah | apply yai) | exact HB.out)))
       (case aF => exact (fun _ _ => trivial))
       (case aO => exact (by (with_reducible repeat (first | apply Kd.R_alloc | apply Kd.R_drewN | apply Kd.R_drew)); exact HO127.out))
       (case aS => exact (below_size (by repeat (first | (with_reducible first | exact HB.out | apply yaj | apply yah | apply yai) | exact HB.out))))
       (case aL => have := LMc5.out; omega)
       intro v133 w15 ho hb hg hat
       rw [← Ny132.out] at ho
       have n0_ := yap (hb)
       have n1_ := yap (ho)
       clear HB
       clear HO127
       have HB := n0_
       have HO134 := n1_
       clear n0_ n1_
       clear ho hb hg hat
       refine hK.out _ _ trivial (fun hHeld => ?_)
       clear hK K
       refine norm_ (a' := ?_) ?_ ?_
       rotate_left
       ·show Act.put _ (some 9) _ = _
        simp only [Act.put, yaa, yab, yac, i64_w, i32_w]
        rfl
       refine one_ (i := 9) (N := some 14) ysq10 rfl rfl (one_of HT_.out (by kernel_rfl)) (by decide) (fun K hK => ?_)
       refine Kd.R_append_rows_step k60 (w0 := w) w.heap.size (by rfl) (.tmp 9) (.tmp 13) 38 60 (.agg #[(.int .i64 0), (.int .i64 0), (.string ⟨#[]⟩)]) 32 rfl Try.underlying38 info60 rfl (by decide) (by omega) v133 y132 y135 _ _ _ (fun _ => True) (fun _ => False) rfl rfl ?aO ?aR (fun _ _ h => h) (fun _ h => h.elim) ?aF ?aB ?aS ?aL ?_
       (case aR => repeat (first | exact (Kd.C_below HR138.out HB.out) | (with_reducible refine Kd.C_alloc ?_ _) | (with_reducible refine Kd.C_drewN ?_ _) | (with_reducible refine Kd.C_drew ?_)))
       (case aB => exact (by repeat (first | (with_reducible first | exact HB.out | apply yaj | apply yah | apply yai) | exact HB.out)))
       (case aF => exact (fun _ _ => trivial))
       (case aO => exact (by (with_reducible repeat (first | apply Kd.R_alloc | apply Kd.R_drewN | apply Kd.R_drew)); exact HO134.out))
       (case aS => exact (below_size (by repeat (first | (with_reducible first | exact HB.out | apply yaj | apply yah | apply yai) | exact HB.out))))
       (case aL => have := LMc9.out; omega)
       intro v140 w16 ho hb hg hat
       rw [← Ny139.out] at ho
       have n0_ := yap (hb)
       have n1_ := yap (ho)
       clear HB
       clear HO134
       have HB := n0_
       have HO141 := n1_
       clear n0_ n1_
       clear ho hb hg hat
       refine hK.out _ _ trivial (fun hHeld => ?_)
       clear hK K
       refine norm_ (a' := ?_) ?_ ?_
       rotate_left
       ·show Act.put _ (some 14) _ = _
        simp only [Act.put, yaa, yab, yac, i64_w, i32_w]
        rfl
       refine pure_ (i := 10) (N := some 4) (v := ?_) (a' := ?_) ysq11 rfl rfl (any_of HT_.out (by kernel_rfl)) (fun _ _ _ h => h) (Or.inl ⟨by rfl, ?_⟩) ?_ ?_
       rotate_left
       ·intro w'
        go_simp
        with_reducible rfl
       rotate_left
       ·simp only [Act.put, yaa, yab, yac, i64_w, i32_w]
        rfl
       refine done_ (done_of HT_.out (by kernel_rfl)) ?_
       try go_wp2
       go_ret
       exact ⟨_, by first | rfl | (simp [errW_none, errW_some] <;> rfl) | (simp only [← hji6]; first | rfl | (simp [errW_none, errW_some] <;> rfl)) | (simp [*, errW_none, errW_some] <;> rfl), by (with_reducible repeat (first | apply Kd.R_alloc | apply Kd.R_drewN | apply Kd.R_drew)); exact HO141.out, by repeat (first | (with_reducible first | exact HB.out | apply yaj | apply yah | apply yai) | exact HB.out)⟩
      ·rw [if_neg c9] at H
       exact absurd H (by simp)
     ·rw [if_neg c8] at H
      exact absurd H (by simp)
    ·rw [if_neg c7] at H
     exact absurd H (by simp)
   ·rw [if_neg c5] at H
    exact absurd H (by simp)
  ·rw [if_neg c4] at H
   exact absurd H (by simp)
 ·rw [if_neg c3] at H
  exact absurd H (by simp)

/-! ### stowageref08_Wires_Take: function 29 -/
def stowageref08_Wires_Drop.f (l0_0 : List (S60)) (l0_1 : List (S71)) (a0_2 : Int) (a0_3 : Int) (a0_4 : Int) (a1 : Int) : Option ((List (S60)) × (List (S71)) × Int × Int × Int × Bool) := (stowageref08_Wires_At.f l0_0 l0_1 a0_2 a0_3 a0_4 a1).bind fun bt155 => (if bt155.2.2.2 = true then ((stowageref08_without.f l0_0 a1).bind fun t160 => (some (t160, l0_1, a0_2, a0_3, wrap64 (a0_4 + 1), bt155.2.2.2))) else (some (l0_0, l0_1, a0_2, a0_3, a0_4, bt155.2.2.2)))
set_option maxHeartbeats 8000000 in
set_option maxRecDepth 100000 in
theorem stowageref08_Wires_Drop.calls (P0_0_ : Nat → Prop) (u9000_ : Value) (l0_0 : List (S60)) (P0_1_ : Nat → Prop) (u9001_ : Value) (l0_1 : List (S71)) (a0_2 : Int) (a0_3 : Int) (a0_4 : Int) (a1 : Int) (r1 : List (S60)) (r2 : List (S71)) (r3 : Int) (r4 : Int) (r5 : Int) (r6 : Bool) (w0 w : World) (hB : Below w0.heap.size w0 w) (ho0_0 : Kd.R k60 60 w w0.heap.size P0_0_ u9000_ l0_0) (ho0_1 : Kd.R k71 71 w w0.heap.size P0_1_ u9001_ l0_1) (h : f l0_0 l0_1 a0_2 a0_3 a0_4 a1 = some (r1, r2, r3, r4, r5, r6)) :
  Calls Try.prog 30 #[.agg #[u9000_, u9001_, .int .i64 a0_2, .int .i64 a0_3, .int .i64 a0_4], .int .i64 a1] w fun e w' => ∃ v0_ v1_ : Value, e = .returned (.tuple #[.agg #[v0_, v1_, .int .i64 r3, .int .i64 r4, .int .i64 r5], .bool r6]) ∧ Kd.R k60 60 w' w0.heap.size (fun k_ => ((P0_0_ k_ ∨ P0_1_ k_) ∨ w.heap.size ≤ k_)) v0_ r1 ∧ Kd.R k71 71 w' w0.heap.size (fun k_ => ((P0_0_ k_ ∨ P0_1_ k_) ∨ w.heap.size ≤ k_)) v1_ r2 ∧ Below w0.heap.size w0 w' ∧ Kept w w' (fun k_ => P0_0_ k_ ∨ P0_1_ k_) := by
 have hu41 := Try.underlying41
 have hu60 := Try.underlying60
 have HO0_0 := yap (show Kd.R k60 60 w w0.heap.size (fun k_ => ((P0_0_ k_ ∨ P0_1_ k_) ∨ w.heap.size ≤ k_)) u9000_ l0_0 from Kd.R_mono ho0_0 (fun k_ hk => (.inl (.inl hk))))
 have HO0_1 := yap (show Kd.R k71 71 w w0.heap.size (fun k_ => ((P0_0_ k_ ∨ P0_1_ k_) ∨ w.heap.size ≤ k_)) u9001_ l0_1 from Kd.R_mono ho0_1 (fun k_ hk => (.inl (.inr hk))))
 have HK := yap (Kept.refl w (fun k_ => P0_0_ k_ ∨ P0_1_ k_))
 have HW0 := yap hB.size
 have HB := yap hB
 clear hB
 have H : ((stowageref08_Wires_At.f l0_0 l0_1 a0_2 a0_3 a0_4 a1).bind fun bt155 => (if bt155.2.2.2 = true then ((stowageref08_without.f l0_0 a1).bind fun t160 => (some (t160, l0_1, a0_2, a0_3, wrap64 (a0_4 + 1), bt155.2.2.2))) else (some (l0_0, l0_1, a0_2, a0_3, a0_4, bt155.2.2.2)))) = some (r1, r2, r3, r4, r5, r6) := h
 clear h
 replace H := Option.bind_eq_some_iff.mp H
 obtain ⟨⟨t155, t156, t157, t158⟩, A30, H⟩ := H
 replace H : (if t158 = true then ((stowageref08_without.f l0_0 a1).bind fun t160 => (some (t160, l0_1, a0_2, a0_3, wrap64 (a0_4 + 1), t158))) else (some (l0_0, l0_1, a0_2, a0_3, a0_4, t158))) = some (r1, r2, r3, r4, r5, r6) := H
 have A3 := yap A30
 clear A30
 by_cases c4 : t158 = true
 ·subst c4
  have H1 : ((stowageref08_without.f l0_0 a1).bind fun t160 => (some (t160, l0_1, a0_2, a0_3, wrap64 (a0_4 + 1), true))) = some (r1, r2, r3, r4, r5, r6) := by rw [if_pos rfl] at H; exact H
  clear H
  have H := H1
  clear H1
  replace H := Option.bind_eq_some_iff.mp H
  obtain ⟨t160, A50, H⟩ := H
  replace H : (some (t160, l0_1, a0_2, a0_3, wrap64 (a0_4 + 1), true)) = some (r1, r2, r3, r4, r5, r6) := H
  have A5 := yap A50
  clear A50
  simp only [Option.some.injEq, Prod.mk.injEq] at H
  obtain ⟨rfl, rfl, rfl, rfl, rfl, rfl⟩ := H
  obtain ⟨Ao6, co6, eo6⟩ := Kd.R_slice HO0_0.out
  subst eo6
  obtain ⟨Ao7, co7, eo7⟩ := Kd.R_slice HO0_1.out
  subst eo7
  go_enter Try.func30, Try.ntmps30
  go_wp2_with (first | ((with_reducible refine gate_dst (N := 2) rfl ?_); refine box_event ?hg (N := 2) ?hd (cs := #[.slice Ao6 l0_0.length co6, .slice Ao7 l0_1.length co7, .int .i64 a0_2, .int .i64 a0_3, .int .i64 a0_4]) (t := 41) ?hr ?_; (case hd => rfl); (case hg => rfl); (case hr => first | (go_simp; done) | (go_simp; rfl)); intro yba hg w8 hbox hb; have n0_ := yap (Kd.R_below (by (with_reducible repeat (first | apply Kd.R_alloc | apply Kd.R_drewN | apply Kd.R_drew)); exact HO0_0.out) hb); have n1_ := yap (Kd.R_below (by (with_reducible repeat (first | apply Kd.R_alloc | apply Kd.R_drewN | apply Kd.R_drew)); exact HO0_1.out) hb); have n2_ := yap (Kept.below (S := (fun k_ => P0_0_ k_ ∨ P0_1_ k_)) (by repeat (first | (with_reducible first | exact HK.out | apply Kept.alloc | apply Kept.drewN | apply Kept.drew) | exact HK.out)) hb); have n3_ := yap (below_step (by repeat (first | (with_reducible first | exact HB.out | apply yaj | apply yah | apply yai) | exact HB.out)) hb); have n4_ := yap (hbox); have n5_ := yap ((by rw [hg]; exact (by first | exact HK.out.1 | exact (show Kept w _ (fun k_ => P0_0_ k_ ∨ P0_1_ k_) from by repeat (first | (with_reducible first | exact HK.out | apply Kept.alloc | apply Kept.drewN | apply Kept.drew) | exact HK.out)).1) : w.heap.size ≤ yba)); have n6_ := yap ((by rw [hg]; exact (below_size (by repeat (first | (with_reducible first | exact HB.out | apply yaj | apply yah | apply yai) | exact HB.out))) : w0.heap.size ≤ yba)); clear HO0_0; clear HO0_1; clear HK; clear HB; have HO0_0 := n0_; have HO0_1 := n1_; have HK := n2_; have HB := n3_; have yaw := n4_; have ybu := n5_; have ybv := n6_; clear n0_ n1_ n2_ n3_ n4_ n5_ n6_; clear hb hbox hg) | ((with_reducible refine gate_dst (N := 4) rfl ?_); refine box_event ?hg (N := 4) ?hd (cs := #[.slice none 0 0, .slice none 0 0, .int .i64 0, .int .i64 0, .int .i64 0]) (t := 41) ?hr ?_; (case hd => rfl); (case hg => rfl); (case hr => first | (go_simp; done) | (go_simp; rfl)); intro ybb hg w9 hbox hb; have n0_ := yap (Kd.R_below (by (with_reducible repeat (first | apply Kd.R_alloc | apply Kd.R_drewN | apply Kd.R_drew)); exact HO0_0.out) hb); have n1_ := yap (Kd.R_below (by (with_reducible repeat (first | apply Kd.R_alloc | apply Kd.R_drewN | apply Kd.R_drew)); exact HO0_1.out) hb); have n2_ := yap (blk_below (g := yba) (o := .cells #[.slice Ao6 l0_0.length co6, .slice Ao7 l0_1.length co7, .int .i64 a0_2, .int .i64 a0_3, .int .i64 a0_4] 41 (0, 0)) (by (with_reducible repeat (first | refine yad ?_ _ | refine yaf ?_ | refine yae ?_ _)); exact yaw.out) hb); have n3_ := yap (Kept.below (S := (fun k_ => P0_0_ k_ ∨ P0_1_ k_)) (by repeat (first | (with_reducible first | exact HK.out | apply Kept.alloc | apply Kept.drewN | apply Kept.drew | refine Kept.setCell ?_ (.inr ybu.out) _) | exact HK.out)) hb); have n4_ := yap (below_step (by repeat (first | (with_reducible first | exact HB.out | apply yaj | apply yah | apply yai | refine yag ?_ ybv.out) | exact HB.out)) hb); have n5_ := yap (hbox); have n6_ := yap ((by rw [hg]; exact (by first | exact HK.out.1 | exact (show Kept w _ (fun k_ => P0_0_ k_ ∨ P0_1_ k_) from by repeat (first | (with_reducible first | exact HK.out | apply Kept.alloc | apply Kept.drewN | apply Kept.drew | refine Kept.setCell ?_ (.inr ybu.out) _) | exact HK.out)).1) : w.heap.size ≤ ybb)); have n7_ := yap ((by rw [hg]; exact (below_size (by repeat (first | (with_reducible first | exact HB.out | apply yaj | apply yah | apply yai | refine yag ?_ ybv.out) | exact HB.out))) : w0.heap.size ≤ ybb)); have n8_ := yap ((by rw [hg]; exact yan (blk_lt (g := yba) (o := .cells #[.slice Ao6 l0_0.length co6, .slice Ao7 l0_1.length co7, .int .i64 a0_2, .int .i64 a0_3, .int .i64 a0_4] 41 (0, 0)) (by (with_reducible repeat (first | refine yad ?_ _ | refine yaf ?_ | refine yae ?_ _)); exact yaw.out)) : yba ≠ ybb)); have n9_ := yap ((by rw [hg]; exact yao (blk_lt (g := yba) (o := .cells #[.slice Ao6 l0_0.length co6, .slice Ao7 l0_1.length co7, .int .i64 a0_2, .int .i64 a0_3, .int .i64 a0_4] 41 (0, 0)) (by (with_reducible repeat (first | refine yad ?_ _ | refine yaf ?_ | refine yae ?_ _)); exact yaw.out)) : ybb ≠ yba)); clear HO0_0; clear HO0_1; clear yaw; clear HK; clear HB; have HO0_0 := n0_; have HO0_1 := n1_; have yaw := n2_; have HK := n3_; have HB := n4_; have ybf := n5_; have ybz := n6_; have yca := n7_; have ycf := n8_; have ycc := n9_; clear n0_ n1_ n2_ n3_ n4_ n5_ n6_ n7_ n8_ n9_; clear hb hbox hg; have hnb10 := ycf.out; have hnc10 := ycc.out; have yek : w9.cell? ⟨yba, 0, none⟩ = some (.slice Ao6 l0_0.length co6) := (yak yaw.out 0).trans rfl; have yel : w9.cell? ⟨yba, 1, none⟩ = some (.slice Ao7 l0_1.length co7) := (yak yaw.out 1).trans rfl; have yem : w9.cell? ⟨yba, 2, none⟩ = some (.int .i64 a0_2) := (yak yaw.out 2).trans rfl; have yen : w9.cell? ⟨yba, 3, none⟩ = some (.int .i64 a0_3) := (yak yaw.out 3).trans rfl; have yeo : w9.cell? ⟨yba, 4, none⟩ = some (.int .i64 a0_4) := (yak yaw.out 4).trans rfl; have yep := yal yaw.out 0; have yeq := yal yaw.out 1; have yer := yal yaw.out 2; have yes := yal yaw.out 3; have yet := yal yaw.out 4) | ((with_reducible refine gate_callee (f := 34) rfl ?_); refine goesL_ (some 11) rfl rfl Try.func34 (by kernel_rfl) rfl #[.agg #[.slice Ao6 l0_0.length co6, .slice Ao7 l0_1.length co7, .int .i64 a0_2, .int .i64 a0_3, .int .i64 a0_4], .int .i64 a1] rfl (by (try simp only [List.map_toArray, List.map_cons, List.map_nil]); first | done | rfl) ?_; (with_reducible refine (stowageref08_Wires_At.calls _ _ l0_0 _ _ l0_1 a0_2 a0_3 a0_4 a1 t155 t156 t157 true _ ?side1 ?side2 ?side3 ?side4 A3.out).mono ?_); (case side1 => repeat (first | exact (Kd.R_reads' HO0_0.out).2.2 | (with_reducible refine Kd.C_alloc ?_ _) | (with_reducible refine Kd.C_drewN ?_ _) | (with_reducible refine Kd.C_drew ?_))); (case side2 => exact (Kd.R_reads' HO0_0.out).2.1); (case side3 => repeat (first | exact (Kd.R_reads' HO0_1.out).2.2 | (with_reducible refine Kd.C_alloc ?_ _) | (with_reducible refine Kd.C_drewN ?_ _) | (with_reducible refine Kd.C_drew ?_))); (case side4 => exact (Kd.R_reads' HO0_1.out).2.1); rintro e w12 ⟨rfl, hb⟩; refine ⟨_, rfl, ?_⟩; have n0_ := yap (Kd.R_below (by (with_reducible repeat (first | apply Kd.R_alloc | apply Kd.R_drewN | apply Kd.R_drew)); exact HO0_0.out) hb); have n1_ := yap (Kd.R_below (by (with_reducible repeat (first | apply Kd.R_alloc | apply Kd.R_drewN | apply Kd.R_drew)); exact HO0_1.out) hb); have n2_ := yap (blk_below (g := yba) (o := .cells #[.slice Ao6 l0_0.length co6, .slice Ao7 l0_1.length co7, .int .i64 a0_2, .int .i64 a0_3, .int .i64 a0_4] 41 (0, 0)) (by (with_reducible repeat (first | refine yad ?_ _ | refine yaf ?_ | refine yae ?_ _)); exact yaw.out) hb); have n3_ := yap (blk_below (g := ybb) (o := .cells #[.slice none 0 0, .slice none 0 0, .int .i64 0, .int .i64 0, .int .i64 0] 41 (0, 0)) (by (with_reducible repeat (first | refine yad ?_ _ | refine yaf ?_ | refine yae ?_ _)); exact ybf.out) hb); have n4_ := yap (Kept.below (S := (fun k_ => P0_0_ k_ ∨ P0_1_ k_)) (by repeat (first | (with_reducible first | exact HK.out | apply Kept.alloc | apply Kept.drewN | apply Kept.drew | refine Kept.setCell ?_ (.inr ybu.out) _ | refine Kept.setCell ?_ (.inr ybz.out) _) | exact HK.out)) hb); have n5_ := yap (below_step (by repeat (first | (with_reducible first | exact HB.out | apply yaj | apply yah | apply yai | refine yag ?_ ybv.out | refine yag ?_ yca.out) | exact HB.out)) hb); clear HO0_0; clear HO0_1; clear yaw; clear ybf; clear HK; clear HB; have HO0_0 := n0_; have HO0_1 := n1_; have yaw := n2_; have ybf := n3_; have HK := n4_; have HB := n5_; clear n0_ n1_ n2_ n3_ n4_ n5_; (try clear hb); (try clear hk); (try clear hi)) | ((with_reducible refine gate_dst (N := 6) rfl ?_); refine box_event ?hg (N := 6) ?hd (cs := #[.int .i64 0, .int .i64 0, .string (⟨#[]⟩ : ByteArray)]) (t := 60) ?hr ?_; (case hd => rfl); (case hg => rfl); (case hr => first | (go_simp; done) | (go_simp; rfl)); intro ybg hg w13 hbox hb; have n0_ := yap (Kd.R_below (Kd.R_elderB (by (with_reducible repeat (first | apply Kd.R_alloc | apply Kd.R_drewN | apply Kd.R_drew)); exact HO0_0.out) ybg (Nat.le_of_eq hg.symm)) hb); have n1_ := yap (Kd.R_below (by (with_reducible repeat (first | apply Kd.R_alloc | apply Kd.R_drewN | apply Kd.R_drew)); exact HO0_1.out) hb); have n2_ := yap (blk_below (g := yba) (o := .cells #[.slice Ao6 l0_0.length co6, .slice Ao7 l0_1.length co7, .int .i64 a0_2, .int .i64 a0_3, .int .i64 a0_4] 41 (0, 0)) (by (with_reducible repeat (first | refine yad ?_ _ | refine yaf ?_ | refine yae ?_ _)); exact yaw.out) hb); have n3_ := yap (blk_below (g := ybb) (o := .cells #[.slice none 0 0, .slice none 0 0, .int .i64 0, .int .i64 0, .int .i64 0] 41 (0, 0)) (by (with_reducible repeat (first | refine yad ?_ _ | refine yaf ?_ | refine yae ?_ _)); exact ybf.out) hb); have n4_ := yap (Kept.below (S := (fun k_ => P0_0_ k_ ∨ P0_1_ k_)) (by repeat (first | (with_reducible first | exact HK.out | apply Kept.alloc | apply Kept.drewN | apply Kept.drew | refine Kept.setCell ?_ (.inr ybu.out) _ | refine Kept.setCell ?_ (.inr ybz.out) _) | exact HK.out)) hb); have n5_ := yap (below_step (by repeat (first | (with_reducible first | exact HB.out | apply yaj | apply yah | apply yai | refine yag ?_ ybv.out | refine yag ?_ yca.out) | exact HB.out)) hb); have n6_ := yap (hbox); have n7_ := yap ((by rw [hg]; exact (by first | exact HK.out.1 | exact (show Kept w _ (fun k_ => P0_0_ k_ ∨ P0_1_ k_) from by repeat (first | (with_reducible first | exact HK.out | apply Kept.alloc | apply Kept.drewN | apply Kept.drew | refine Kept.setCell ?_ (.inr ybu.out) _ | refine Kept.setCell ?_ (.inr ybz.out) _) | exact HK.out)).1) : w.heap.size ≤ ybg)); have n8_ := yap ((by rw [hg]; exact (below_size (by repeat (first | (with_reducible first | exact HB.out | apply yaj | apply yah | apply yai | refine yag ?_ ybv.out | refine yag ?_ yca.out) | exact HB.out))) : w0.heap.size ≤ ybg)); have n9_ := yap ((by rw [hg]; exact yan (blk_lt (g := yba) (o := .cells #[.slice Ao6 l0_0.length co6, .slice Ao7 l0_1.length co7, .int .i64 a0_2, .int .i64 a0_3, .int .i64 a0_4] 41 (0, 0)) (by (with_reducible repeat (first | refine yad ?_ _ | refine yaf ?_ | refine yae ?_ _)); exact yaw.out)) : yba ≠ ybg)); have n10_ := yap ((by rw [hg]; exact yao (blk_lt (g := yba) (o := .cells #[.slice Ao6 l0_0.length co6, .slice Ao7 l0_1.length co7, .int .i64 a0_2, .int .i64 a0_3, .int .i64 a0_4] 41 (0, 0)) (by (with_reducible repeat (first | refine yad ?_ _ | refine yaf ?_ | refine yae ?_ _)); exact yaw.out)) : ybg ≠ yba)); have n11_ := yap ((by rw [hg]; exact yan (blk_lt (g := ybb) (o := .cells #[.slice none 0 0, .slice none 0 0, .int .i64 0, .int .i64 0, .int .i64 0] 41 (0, 0)) (by (with_reducible repeat (first | refine yad ?_ _ | refine yaf ?_ | refine yae ?_ _)); exact ybf.out)) : ybb ≠ ybg)); have n12_ := yap ((by rw [hg]; exact yao (blk_lt (g := ybb) (o := .cells #[.slice none 0 0, .slice none 0 0, .int .i64 0, .int .i64 0, .int .i64 0] 41 (0, 0)) (by (with_reducible repeat (first | refine yad ?_ _ | refine yaf ?_ | refine yae ?_ _)); exact ybf.out)) : ybg ≠ ybb)); clear HO0_0; clear HO0_1; clear yaw; clear ybf; clear HK; clear HB; have HO0_0 := n0_; have HO0_1 := n1_; have yaw := n2_; have ybf := n3_; have HK := n4_; have HB := n5_; have ybp := n6_; have yci := n7_; have ycj := n8_; have yby := n9_; have ycg := n10_; have ybt := n11_; have ych := n12_; clear n0_ n1_ n2_ n3_ n4_ n5_ n6_ n7_ n8_ n9_ n10_ n11_ n12_; clear hb hbox hg; have hnb14 := ycg.out; have hnc14 := yby.out; have hnb15 := ych.out; have hnc15 := ybt.out; have yeu : w13.cell? ⟨ybg, 0, none⟩ = some (.int .i64 0) := (yak ybp.out 0).trans rfl; have yev : w13.cell? ⟨ybg, 1, none⟩ = some (.int .i64 0) := (yak ybp.out 1).trans rfl; have yew : w13.cell? ⟨ybg, 2, none⟩ = some (.string (⟨#[]⟩ : ByteArray)) := (yak ybp.out 2).trans rfl; have yex := yal ybp.out 0; have yey := yal ybp.out 1; have yez := yal ybp.out 2; have yfa : w13.cell? ⟨yba, 0, none⟩ = some (.slice Ao6 l0_0.length co6) := (yak yaw.out 0).trans rfl; have yfb : w13.cell? ⟨yba, 1, none⟩ = some (.slice Ao7 l0_1.length co7) := (yak yaw.out 1).trans rfl; have yfc : w13.cell? ⟨yba, 2, none⟩ = some (.int .i64 a0_2) := (yak yaw.out 2).trans rfl; have yfd : w13.cell? ⟨yba, 3, none⟩ = some (.int .i64 a0_3) := (yak yaw.out 3).trans rfl; have yfe : w13.cell? ⟨yba, 4, none⟩ = some (.int .i64 a0_4) := (yak yaw.out 4).trans rfl; have yff := yal yaw.out 0; have yfg := yal yaw.out 1; have yfh := yal yaw.out 2; have yfi := yal yaw.out 3; have yfj := yal yaw.out 4) | ((with_reducible refine gate_callee (f := 38) rfl ?_); refine goesL_ (some 18) rfl rfl Try.func38 (by kernel_rfl) rfl #[.slice Ao6 l0_0.length co6, .int .i64 a1] rfl (by (try simp only [List.map_toArray, List.map_cons, List.map_nil]); first | done | rfl) ?_; (with_reducible refine (stowageref08_without.calls _ _ l0_0 a1 t160 _ ?side1 ?side2 A5.out).mono ?_); (case side1 => refine (Kd.R_reads' (e := 60) (base := w0.heap.size) (ok := fun k_ => (((P0_0_ k_ ∨ P0_1_ k_) ∨ w.heap.size ≤ k_) ∧ k_ ≠ ybg)) (n := l0_0.length) (c := co6) ?_).2.2; exact (by (with_reducible repeat (first | apply Kd.R_alloc | apply Kd.R_drewN | apply Kd.R_drew)); exact (Kd.R_mono (Kd.R_far (p := ⟨ybg, 2, none⟩) (Kd.R_far (p := ⟨ybg, 1, none⟩) (Kd.R_far (p := ⟨ybg, 0, none⟩) (Kd.R_mono HO0_0.out (fun k_ hk => (⟨hk, hk.2⟩ : _ ∧ k_ ≠ ybg))) (fun _ hk => hk.2) (.int .i64 t155)) (fun _ hk => hk.2) (.int .i64 t156)) (fun _ hk => hk.2) (.string t157)) (fun _ h_ => h_.1)))); (case side2 => exact (Kd.R_reads' HO0_0.out).2.1); rintro e w18 ⟨v161, rfl, ho0, hb⟩; refine ⟨_, rfl, ?_⟩; have n0_ := yap (Kd.R_elder' (by (with_reducible repeat (first | apply Kd.R_alloc | apply Kd.R_drewN | apply Kd.R_drew)); exact (Kd.R_mono (Kd.R_far (p := ⟨ybg, 2, none⟩) (Kd.R_far (p := ⟨ybg, 1, none⟩) (Kd.R_far (p := ⟨ybg, 0, none⟩) (Kd.R_mono HO0_0.out (fun k_ hk => (⟨hk, hk.2⟩ : _ ∧ k_ ≠ ybg))) (fun _ hk => hk.2) (.int .i64 t155)) (fun _ hk => hk.2) (.int .i64 t156)) (fun _ hk => hk.2) (.string t157)) (fun _ h_ => h_.1))) (Kd.R_base ho0) hb); have n1_ := yap (Kd.R_below (by (with_reducible repeat (first | apply Kd.R_alloc | apply Kd.R_drewN | apply Kd.R_drew)); exact (Kd.R_mono (Kd.R_far (p := ⟨ybg, 2, none⟩) (Kd.R_far (p := ⟨ybg, 1, none⟩) (Kd.R_far (p := ⟨ybg, 0, none⟩) (Kd.R_types HO0_1.out ybp.out (by decide)) (fun _ hk => hk.2) (.int .i64 t155)) (fun _ hk => hk.2) (.int .i64 t156)) (fun _ hk => hk.2) (.string t157)) (fun _ h_ => h_.1))) hb); have n2_ := yap (Kd.R_lower (Kd.R_newB (Kd.R_new' (Kd.R_newM (M := fun k_ => ((P0_0_ k_ ∨ P0_1_ k_) ∨ w.heap.size ≤ k_)) ho0 (show Kept w _ (fun k_ => P0_0_ k_ ∨ P0_1_ k_) from by repeat (first | (with_reducible first | exact HK.out | apply Kept.alloc | apply Kept.drewN | apply Kept.drew | refine Kept.setCell ?_ (.inr ybu.out) _ | refine Kept.setCell ?_ (.inr ybz.out) _ | refine Kept.setCell ?_ (.inr yci.out) _) | exact HK.out)).1 (fun k_ h_ => .inr h_)) (Kd.R_lt (by (with_reducible repeat (first | apply Kd.R_alloc | apply Kd.R_drewN | apply Kd.R_drew)); exact (Kd.R_mono (Kd.R_far (p := ⟨ybg, 2, none⟩) (Kd.R_far (p := ⟨ybg, 1, none⟩) (Kd.R_far (p := ⟨ybg, 0, none⟩) (Kd.R_mono HO0_0.out (fun k_ hk => (⟨hk, hk.2⟩ : _ ∧ k_ ≠ ybg))) (fun _ hk => hk.2) (.int .i64 t155)) (fun _ hk => hk.2) (.int .i64 t156)) (fun _ hk => hk.2) (.string t157)) (fun _ h_ => h_.1))))) (g := ybg) (o := .cells #[.int .i64 t155, .int .i64 t156, .string t157] 60 (0, 0)) (by (with_reducible repeat (first | refine yad ?_ _ | refine yaf ?_ | refine yae ?_ _)); refine blk_put (cs := #[.int .i64 t155, .int .i64 t156, .string (⟨#[]⟩ : ByteArray)]) ?_ 2 _ rfl; (with_reducible repeat (first | refine yad ?_ _ | refine yaf ?_ | refine yae ?_ _)); refine blk_put (cs := #[.int .i64 t155, .int .i64 0, .string (⟨#[]⟩ : ByteArray)]) ?_ 1 _ rfl; (with_reducible repeat (first | refine yad ?_ _ | refine yaf ?_ | refine yae ?_ _)); refine blk_put (cs := #[.int .i64 0, .int .i64 0, .string (⟨#[]⟩ : ByteArray)]) ?_ 0 _ rfl; (with_reducible repeat (first | refine yad ?_ _ | refine yaf ?_ | refine yae ?_ _)); exact ybp.out)) (below_size (by repeat (first | (with_reducible first | exact HB.out | apply yaj | apply yah | apply yai | refine yag ?_ ybv.out | refine yag ?_ yca.out | refine yag ?_ ycj.out) | exact HB.out)))); have n3_ := yap (blk_below (g := yba) (o := .cells #[.slice Ao6 l0_0.length co6, .slice Ao7 l0_1.length co7, .int .i64 a0_2, .int .i64 a0_3, .int .i64 a0_4] 41 (0, 0)) (by (with_reducible repeat (first | refine yad ?_ _ | refine yaf ?_ | refine yae ?_ _)); refine blk_far ?_ yby.out _; (with_reducible repeat (first | refine yad ?_ _ | refine yaf ?_ | refine yae ?_ _)); refine blk_far ?_ yby.out _; (with_reducible repeat (first | refine yad ?_ _ | refine yaf ?_ | refine yae ?_ _)); refine blk_far ?_ yby.out _; (with_reducible repeat (first | refine yad ?_ _ | refine yaf ?_ | refine yae ?_ _)); exact yaw.out) hb); have n4_ := yap (blk_below (g := ybb) (o := .cells #[.slice none 0 0, .slice none 0 0, .int .i64 0, .int .i64 0, .int .i64 0] 41 (0, 0)) (by (with_reducible repeat (first | refine yad ?_ _ | refine yaf ?_ | refine yae ?_ _)); refine blk_far ?_ ybt.out _; (with_reducible repeat (first | refine yad ?_ _ | refine yaf ?_ | refine yae ?_ _)); refine blk_far ?_ ybt.out _; (with_reducible repeat (first | refine yad ?_ _ | refine yaf ?_ | refine yae ?_ _)); refine blk_far ?_ ybt.out _; (with_reducible repeat (first | refine yad ?_ _ | refine yaf ?_ | refine yae ?_ _)); exact ybf.out) hb); have n5_ := yap (blk_below (g := ybg) (o := .cells #[.int .i64 t155, .int .i64 t156, .string t157] 60 (0, 0)) (by (with_reducible repeat (first | refine yad ?_ _ | refine yaf ?_ | refine yae ?_ _)); refine blk_put (cs := #[.int .i64 t155, .int .i64 t156, .string (⟨#[]⟩ : ByteArray)]) ?_ 2 _ rfl; (with_reducible repeat (first | refine yad ?_ _ | refine yaf ?_ | refine yae ?_ _)); refine blk_put (cs := #[.int .i64 t155, .int .i64 0, .string (⟨#[]⟩ : ByteArray)]) ?_ 1 _ rfl; (with_reducible repeat (first | refine yad ?_ _ | refine yaf ?_ | refine yae ?_ _)); refine blk_put (cs := #[.int .i64 0, .int .i64 0, .string (⟨#[]⟩ : ByteArray)]) ?_ 0 _ rfl; (with_reducible repeat (first | refine yad ?_ _ | refine yaf ?_ | refine yae ?_ _)); exact ybp.out) hb); have n6_ := yap (Kept.below (S := (fun k_ => P0_0_ k_ ∨ P0_1_ k_)) (by repeat (first | (with_reducible first | exact HK.out | apply Kept.alloc | apply Kept.drewN | apply Kept.drew | refine Kept.setCell ?_ (.inr ybu.out) _ | refine Kept.setCell ?_ (.inr ybz.out) _ | refine Kept.setCell ?_ (.inr yci.out) _) | exact HK.out)) hb); have n7_ := yap (below_step (by repeat (first | (with_reducible first | exact HB.out | apply yaj | apply yah | apply yai | refine yag ?_ ybv.out | refine yag ?_ yca.out | refine yag ?_ ycj.out) | exact HB.out)) hb); clear HO0_0; clear HO0_1; clear yaw; clear ybf; clear ybp; clear HK; clear HB; have HO0_0 := n0_; have HO0_1 := n1_; have HO162 := n2_; have yaw := n3_; have ybf := n4_; have ybp := n5_; have HK := n6_; have HB := n7_; clear n0_ n1_ n2_ n3_ n4_ n5_ n6_ n7_; (try clear hb); (try clear hk); (try clear hi); (try clear ho0); obtain ⟨Ao19, co19, eo19⟩ := Kd.R_slice HO162.out; subst eo19; have yck : w18.cell? ⟨yba, 0, none⟩ = some (.slice Ao6 l0_0.length co6) := (yak yaw.out 0).trans rfl; have ycl : w18.cell? ⟨yba, 1, none⟩ = some (.slice Ao7 l0_1.length co7) := (yak yaw.out 1).trans rfl; have ycm : w18.cell? ⟨yba, 2, none⟩ = some (.int .i64 a0_2) := (yak yaw.out 2).trans rfl; have ycn : w18.cell? ⟨yba, 3, none⟩ = some (.int .i64 a0_3) := (yak yaw.out 3).trans rfl; have yco : w18.cell? ⟨yba, 4, none⟩ = some (.int .i64 a0_4) := (yak yaw.out 4).trans rfl; have ycp := yal yaw.out 0; have ycq := yal yaw.out 1; have ycr := yal yaw.out 2; have ycs := yal yaw.out 3; have yct := yal yaw.out 4; have yfk : w18.cell? ⟨ybb, 0, none⟩ = some (.slice none 0 0) := (yak ybf.out 0).trans rfl; have yfl : w18.cell? ⟨ybb, 1, none⟩ = some (.slice none 0 0) := (yak ybf.out 1).trans rfl; have yfm : w18.cell? ⟨ybb, 2, none⟩ = some (.int .i64 0) := (yak ybf.out 2).trans rfl; have yfn : w18.cell? ⟨ybb, 3, none⟩ = some (.int .i64 0) := (yak ybf.out 3).trans rfl; have yfo : w18.cell? ⟨ybb, 4, none⟩ = some (.int .i64 0) := (yak ybf.out 4).trans rfl; have yfp := yal ybf.out 0; have yfq := yal ybf.out 1; have yfr := yal ybf.out 2; have yfs := yal ybf.out 3; have yft := yal ybf.out 4))
  refine bodyPost_ret (results_ct rfl _ _ ybb 41 #[.slice Ao19 t160.length co19, .slice Ao7 l0_1.length co7, .int .i64 a0_2, .int .i64 a0_3, .int .i64 (wrap64 (a0_4 + 1))] (0, 0) _ rfl (by (with_reducible repeat (first | refine yad ?_ _ | refine yaf ?_ | refine yae ?_ _)); refine blk_put (cs := #[.slice Ao19 t160.length co19, .slice Ao7 l0_1.length co7, .int .i64 a0_2, .int .i64 a0_3, .int .i64 0]) ?_ 4 _ rfl; (with_reducible repeat (first | refine yad ?_ _ | refine yaf ?_ | refine yae ?_ _)); refine blk_put (cs := #[.slice Ao19 t160.length co19, .slice Ao7 l0_1.length co7, .int .i64 a0_2, .int .i64 0, .int .i64 0]) ?_ 3 _ rfl; (with_reducible repeat (first | refine yad ?_ _ | refine yaf ?_ | refine yae ?_ _)); refine blk_put (cs := #[.slice Ao19 t160.length co19, .slice Ao7 l0_1.length co7, .int .i64 0, .int .i64 0, .int .i64 0]) ?_ 2 _ rfl; (with_reducible repeat (first | refine yad ?_ _ | refine yaf ?_ | refine yae ?_ _)); refine blk_put (cs := #[.slice Ao19 t160.length co19, .slice none 0 0, .int .i64 0, .int .i64 0, .int .i64 0]) ?_ 1 _ rfl; (with_reducible repeat (first | refine yad ?_ _ | refine yaf ?_ | refine yae ?_ _)); refine blk_put (cs := #[.slice none 0 0, .slice none 0 0, .int .i64 0, .int .i64 0, .int .i64 0]) ?_ 0 _ rfl; (with_reducible repeat (first | refine yad ?_ _ | refine yaf ?_ | refine yae ?_ _)); refine blk_far ?_ ycc.out _; (with_reducible repeat (first | refine yad ?_ _ | refine yaf ?_ | refine yae ?_ _)); refine blk_far ?_ ycc.out _; (with_reducible repeat (first | refine yad ?_ _ | refine yaf ?_ | refine yae ?_ _)); exact ybf.out) Try.underlying41 rfl (by kernel_rfl)) rfl ?_
  exact ⟨_, _, by first | rfl | (simp [errW_none, errW_some] <;> rfl) | (simp [*, errW_none, errW_some] <;> rfl), by (with_reducible repeat (first | apply Kd.R_alloc | apply Kd.R_drewN | apply Kd.R_drew)); exact Kd.R_mono (Kd.R_far (p := ⟨ybb, 4, none⟩) (Kd.R_far (p := ⟨ybb, 3, none⟩) (Kd.R_far (p := ⟨ybb, 2, none⟩) (Kd.R_far (p := ⟨ybb, 1, none⟩) (Kd.R_far (p := ⟨ybb, 0, none⟩) (Kd.R_far (p := ⟨yba, 4, none⟩) (Kd.R_far (p := ⟨yba, 0, none⟩) (Kd.R_types (Kd.R_types HO162.out yaw.out (by decide)) ybf.out (by decide)) (fun _ hk => hk.1.2) (.slice Ao19 t160.length co19)) (fun _ hk => hk.1.2) (.int .i64 (wrap64 (a0_4 + 1)))) (fun _ hk => hk.2) (.slice Ao19 t160.length co19)) (fun _ hk => hk.2) (.slice Ao7 l0_1.length co7)) (fun _ hk => hk.2) (.int .i64 a0_2)) (fun _ hk => hk.2) (.int .i64 a0_3)) (fun _ hk => hk.2) (.int .i64 (wrap64 (a0_4 + 1)))) (fun _ hk => hk.1.1.1.1.1), by (with_reducible repeat (first | apply Kd.R_alloc | apply Kd.R_drewN | apply Kd.R_drew)); exact Kd.R_mono (Kd.R_far (p := ⟨ybb, 4, none⟩) (Kd.R_far (p := ⟨ybb, 3, none⟩) (Kd.R_far (p := ⟨ybb, 2, none⟩) (Kd.R_far (p := ⟨ybb, 1, none⟩) (Kd.R_far (p := ⟨ybb, 0, none⟩) (Kd.R_far (p := ⟨yba, 4, none⟩) (Kd.R_far (p := ⟨yba, 0, none⟩) (Kd.R_types (Kd.R_types HO0_1.out yaw.out (by decide)) ybf.out (by decide)) (fun _ hk => hk.1.2) (.slice Ao19 t160.length co19)) (fun _ hk => hk.1.2) (.int .i64 (wrap64 (a0_4 + 1)))) (fun _ hk => hk.2) (.slice Ao19 t160.length co19)) (fun _ hk => hk.2) (.slice Ao7 l0_1.length co7)) (fun _ hk => hk.2) (.int .i64 a0_2)) (fun _ hk => hk.2) (.int .i64 a0_3)) (fun _ hk => hk.2) (.int .i64 (wrap64 (a0_4 + 1)))) (fun _ hk => hk.1.1), by repeat (first | (with_reducible first | exact HB.out | apply yaj | apply yah | apply yai | refine yag ?_ ybv.out | refine yag ?_ yca.out | refine yag ?_ ycj.out) | exact HB.out), by repeat (first | (with_reducible first | exact HK.out | apply Kept.alloc | apply Kept.drewN | apply Kept.drew | refine Kept.setCell ?_ (.inr ybu.out) _ | refine Kept.setCell ?_ (.inr ybz.out) _ | refine Kept.setCell ?_ (.inr yci.out) _) | exact HK.out)⟩
 ·replace c4 := Bool.eq_false_iff.mpr c4
  subst c4
  have H1 : (some (l0_0, l0_1, a0_2, a0_3, a0_4, false)) = some (r1, r2, r3, r4, r5, r6) := by rw [if_neg (show ¬ (false = true) by decide)] at H; exact H
  clear H
  have H := H1
  clear H1
  simp only [Option.some.injEq, Prod.mk.injEq] at H
  obtain ⟨rfl, rfl, rfl, rfl, rfl, rfl⟩ := H
  obtain ⟨Ao22, co22, eo22⟩ := Kd.R_slice HO0_0.out
  subst eo22
  obtain ⟨Ao23, co23, eo23⟩ := Kd.R_slice HO0_1.out
  subst eo23
  go_enter Try.func30, Try.ntmps30
  go_wp2_with (first | ((with_reducible refine gate_dst (N := 2) rfl ?_); refine box_event ?hg (N := 2) ?hd (cs := #[.slice Ao22 l0_0.length co22, .slice Ao23 l0_1.length co23, .int .i64 a0_2, .int .i64 a0_3, .int .i64 a0_4]) (t := 41) ?hr ?_; (case hd => rfl); (case hg => rfl); (case hr => first | (go_simp; done) | (go_simp; rfl)); intro yba hg w24 hbox hb; have n0_ := yap (Kd.R_below (by (with_reducible repeat (first | apply Kd.R_alloc | apply Kd.R_drewN | apply Kd.R_drew)); exact HO0_0.out) hb); have n1_ := yap (Kd.R_below (by (with_reducible repeat (first | apply Kd.R_alloc | apply Kd.R_drewN | apply Kd.R_drew)); exact HO0_1.out) hb); have n2_ := yap (Kept.below (S := (fun k_ => P0_0_ k_ ∨ P0_1_ k_)) (by repeat (first | (with_reducible first | exact HK.out | apply Kept.alloc | apply Kept.drewN | apply Kept.drew) | exact HK.out)) hb); have n3_ := yap (below_step (by repeat (first | (with_reducible first | exact HB.out | apply yaj | apply yah | apply yai) | exact HB.out)) hb); have n4_ := yap (hbox); have n5_ := yap ((by rw [hg]; exact (by first | exact HK.out.1 | exact (show Kept w _ (fun k_ => P0_0_ k_ ∨ P0_1_ k_) from by repeat (first | (with_reducible first | exact HK.out | apply Kept.alloc | apply Kept.drewN | apply Kept.drew) | exact HK.out)).1) : w.heap.size ≤ yba)); have n6_ := yap ((by rw [hg]; exact (below_size (by repeat (first | (with_reducible first | exact HB.out | apply yaj | apply yah | apply yai) | exact HB.out))) : w0.heap.size ≤ yba)); clear HO0_0; clear HO0_1; clear HK; clear HB; have HO0_0 := n0_; have HO0_1 := n1_; have HK := n2_; have HB := n3_; have yaw := n4_; have ybu := n5_; have ybv := n6_; clear n0_ n1_ n2_ n3_ n4_ n5_ n6_; clear hb hbox hg) | ((with_reducible refine gate_dst (N := 4) rfl ?_); refine box_event ?hg (N := 4) ?hd (cs := #[.slice none 0 0, .slice none 0 0, .int .i64 0, .int .i64 0, .int .i64 0]) (t := 41) ?hr ?_; (case hd => rfl); (case hg => rfl); (case hr => first | (go_simp; done) | (go_simp; rfl)); intro ybb hg w25 hbox hb; have n0_ := yap (Kd.R_below (by (with_reducible repeat (first | apply Kd.R_alloc | apply Kd.R_drewN | apply Kd.R_drew)); exact HO0_0.out) hb); have n1_ := yap (Kd.R_below (by (with_reducible repeat (first | apply Kd.R_alloc | apply Kd.R_drewN | apply Kd.R_drew)); exact HO0_1.out) hb); have n2_ := yap (blk_below (g := yba) (o := .cells #[.slice Ao22 l0_0.length co22, .slice Ao23 l0_1.length co23, .int .i64 a0_2, .int .i64 a0_3, .int .i64 a0_4] 41 (0, 0)) (by (with_reducible repeat (first | refine yad ?_ _ | refine yaf ?_ | refine yae ?_ _)); exact yaw.out) hb); have n3_ := yap (Kept.below (S := (fun k_ => P0_0_ k_ ∨ P0_1_ k_)) (by repeat (first | (with_reducible first | exact HK.out | apply Kept.alloc | apply Kept.drewN | apply Kept.drew | refine Kept.setCell ?_ (.inr ybu.out) _) | exact HK.out)) hb); have n4_ := yap (below_step (by repeat (first | (with_reducible first | exact HB.out | apply yaj | apply yah | apply yai | refine yag ?_ ybv.out) | exact HB.out)) hb); have n5_ := yap (hbox); have n6_ := yap ((by rw [hg]; exact (by first | exact HK.out.1 | exact (show Kept w _ (fun k_ => P0_0_ k_ ∨ P0_1_ k_) from by repeat (first | (with_reducible first | exact HK.out | apply Kept.alloc | apply Kept.drewN | apply Kept.drew | refine Kept.setCell ?_ (.inr ybu.out) _) | exact HK.out)).1) : w.heap.size ≤ ybb)); have n7_ := yap ((by rw [hg]; exact (below_size (by repeat (first | (with_reducible first | exact HB.out | apply yaj | apply yah | apply yai | refine yag ?_ ybv.out) | exact HB.out))) : w0.heap.size ≤ ybb)); have n8_ := yap ((by rw [hg]; exact yan (blk_lt (g := yba) (o := .cells #[.slice Ao22 l0_0.length co22, .slice Ao23 l0_1.length co23, .int .i64 a0_2, .int .i64 a0_3, .int .i64 a0_4] 41 (0, 0)) (by (with_reducible repeat (first | refine yad ?_ _ | refine yaf ?_ | refine yae ?_ _)); exact yaw.out)) : yba ≠ ybb)); have n9_ := yap ((by rw [hg]; exact yao (blk_lt (g := yba) (o := .cells #[.slice Ao22 l0_0.length co22, .slice Ao23 l0_1.length co23, .int .i64 a0_2, .int .i64 a0_3, .int .i64 a0_4] 41 (0, 0)) (by (with_reducible repeat (first | refine yad ?_ _ | refine yaf ?_ | refine yae ?_ _)); exact yaw.out)) : ybb ≠ yba)); clear HO0_0; clear HO0_1; clear yaw; clear HK; clear HB; have HO0_0 := n0_; have HO0_1 := n1_; have yaw := n2_; have HK := n3_; have HB := n4_; have ybf := n5_; have ybz := n6_; have yca := n7_; have ycf := n8_; have ycc := n9_; clear n0_ n1_ n2_ n3_ n4_ n5_ n6_ n7_ n8_ n9_; clear hb hbox hg; have hnb26 := ycf.out; have hnc26 := ycc.out; have yfu : w25.cell? ⟨yba, 0, none⟩ = some (.slice Ao22 l0_0.length co22) := (yak yaw.out 0).trans rfl; have yfv : w25.cell? ⟨yba, 1, none⟩ = some (.slice Ao23 l0_1.length co23) := (yak yaw.out 1).trans rfl; have yfw : w25.cell? ⟨yba, 2, none⟩ = some (.int .i64 a0_2) := (yak yaw.out 2).trans rfl; have yfx : w25.cell? ⟨yba, 3, none⟩ = some (.int .i64 a0_3) := (yak yaw.out 3).trans rfl; have yfy : w25.cell? ⟨yba, 4, none⟩ = some (.int .i64 a0_4) := (yak yaw.out 4).trans rfl; have yfz := yal yaw.out 0; have yga := yal yaw.out 1; have ygb := yal yaw.out 2; have ygc := yal yaw.out 3; have ygd := yal yaw.out 4) | ((with_reducible refine gate_callee (f := 34) rfl ?_); refine goesL_ (some 11) rfl rfl Try.func34 (by kernel_rfl) rfl #[.agg #[.slice Ao22 l0_0.length co22, .slice Ao23 l0_1.length co23, .int .i64 a0_2, .int .i64 a0_3, .int .i64 a0_4], .int .i64 a1] rfl (by (try simp only [List.map_toArray, List.map_cons, List.map_nil]); first | done | rfl) ?_; (with_reducible refine (stowageref08_Wires_At.calls _ _ l0_0 _ _ l0_1 a0_2 a0_3 a0_4 a1 t155 t156 t157 false _ ?side1 ?side2 ?side3 ?side4 A3.out).mono ?_); (case side1 => repeat (first | exact (Kd.R_reads' HO0_0.out).2.2 | (with_reducible refine Kd.C_alloc ?_ _) | (with_reducible refine Kd.C_drewN ?_ _) | (with_reducible refine Kd.C_drew ?_))); (case side2 => exact (Kd.R_reads' HO0_0.out).2.1); (case side3 => repeat (first | exact (Kd.R_reads' HO0_1.out).2.2 | (with_reducible refine Kd.C_alloc ?_ _) | (with_reducible refine Kd.C_drewN ?_ _) | (with_reducible refine Kd.C_drew ?_))); (case side4 => exact (Kd.R_reads' HO0_1.out).2.1); rintro e w28 ⟨rfl, hb⟩; refine ⟨_, rfl, ?_⟩; have n0_ := yap (Kd.R_below (by (with_reducible repeat (first | apply Kd.R_alloc | apply Kd.R_drewN | apply Kd.R_drew)); exact HO0_0.out) hb); have n1_ := yap (Kd.R_below (by (with_reducible repeat (first | apply Kd.R_alloc | apply Kd.R_drewN | apply Kd.R_drew)); exact HO0_1.out) hb); have n2_ := yap (blk_below (g := yba) (o := .cells #[.slice Ao22 l0_0.length co22, .slice Ao23 l0_1.length co23, .int .i64 a0_2, .int .i64 a0_3, .int .i64 a0_4] 41 (0, 0)) (by (with_reducible repeat (first | refine yad ?_ _ | refine yaf ?_ | refine yae ?_ _)); exact yaw.out) hb); have n3_ := yap (blk_below (g := ybb) (o := .cells #[.slice none 0 0, .slice none 0 0, .int .i64 0, .int .i64 0, .int .i64 0] 41 (0, 0)) (by (with_reducible repeat (first | refine yad ?_ _ | refine yaf ?_ | refine yae ?_ _)); exact ybf.out) hb); have n4_ := yap (Kept.below (S := (fun k_ => P0_0_ k_ ∨ P0_1_ k_)) (by repeat (first | (with_reducible first | exact HK.out | apply Kept.alloc | apply Kept.drewN | apply Kept.drew | refine Kept.setCell ?_ (.inr ybu.out) _ | refine Kept.setCell ?_ (.inr ybz.out) _) | exact HK.out)) hb); have n5_ := yap (below_step (by repeat (first | (with_reducible first | exact HB.out | apply yaj | apply yah | apply yai | refine yag ?_ ybv.out | refine yag ?_ yca.out) | exact HB.out)) hb); clear HO0_0; clear HO0_1; clear yaw; clear ybf; clear HK; clear HB; have HO0_0 := n0_; have HO0_1 := n1_; have yaw := n2_; have ybf := n3_; have HK := n4_; have HB := n5_; clear n0_ n1_ n2_ n3_ n4_ n5_; (try clear hb); (try clear hk); (try clear hi)) | ((with_reducible refine gate_dst (N := 6) rfl ?_); refine box_event ?hg (N := 6) ?hd (cs := #[.int .i64 0, .int .i64 0, .string (⟨#[]⟩ : ByteArray)]) (t := 60) ?hr ?_; (case hd => rfl); (case hg => rfl); (case hr => first | (go_simp; done) | (go_simp; rfl)); intro ybg hg w29 hbox hb; have n0_ := yap (Kd.R_below (Kd.R_elderB (by (with_reducible repeat (first | apply Kd.R_alloc | apply Kd.R_drewN | apply Kd.R_drew)); exact HO0_0.out) ybg (Nat.le_of_eq hg.symm)) hb); have n1_ := yap (Kd.R_below (by (with_reducible repeat (first | apply Kd.R_alloc | apply Kd.R_drewN | apply Kd.R_drew)); exact HO0_1.out) hb); have n2_ := yap (blk_below (g := yba) (o := .cells #[.slice Ao22 l0_0.length co22, .slice Ao23 l0_1.length co23, .int .i64 a0_2, .int .i64 a0_3, .int .i64 a0_4] 41 (0, 0)) (by (with_reducible repeat (first | refine yad ?_ _ | refine yaf ?_ | refine yae ?_ _)); exact yaw.out) hb); have n3_ := yap (blk_below (g := ybb) (o := .cells #[.slice none 0 0, .slice none 0 0, .int .i64 0, .int .i64 0, .int .i64 0] 41 (0, 0)) (by (with_reducible repeat (first | refine yad ?_ _ | refine yaf ?_ | refine yae ?_ _)); exact ybf.out) hb); have n4_ := yap (Kept.below (S := (fun k_ => P0_0_ k_ ∨ P0_1_ k_)) (by repeat (first | (with_reducible first | exact HK.out | apply Kept.alloc | apply Kept.drewN | apply Kept.drew | refine Kept.setCell ?_ (.inr ybu.out) _ | refine Kept.setCell ?_ (.inr ybz.out) _) | exact HK.out)) hb); have n5_ := yap (below_step (by repeat (first | (with_reducible first | exact HB.out | apply yaj | apply yah | apply yai | refine yag ?_ ybv.out | refine yag ?_ yca.out) | exact HB.out)) hb); have n6_ := yap (hbox); have n7_ := yap ((by rw [hg]; exact (by first | exact HK.out.1 | exact (show Kept w _ (fun k_ => P0_0_ k_ ∨ P0_1_ k_) from by repeat (first | (with_reducible first | exact HK.out | apply Kept.alloc | apply Kept.drewN | apply Kept.drew | refine Kept.setCell ?_ (.inr ybu.out) _ | refine Kept.setCell ?_ (.inr ybz.out) _) | exact HK.out)).1) : w.heap.size ≤ ybg)); have n8_ := yap ((by rw [hg]; exact (below_size (by repeat (first | (with_reducible first | exact HB.out | apply yaj | apply yah | apply yai | refine yag ?_ ybv.out | refine yag ?_ yca.out) | exact HB.out))) : w0.heap.size ≤ ybg)); have n9_ := yap ((by rw [hg]; exact yan (blk_lt (g := yba) (o := .cells #[.slice Ao22 l0_0.length co22, .slice Ao23 l0_1.length co23, .int .i64 a0_2, .int .i64 a0_3, .int .i64 a0_4] 41 (0, 0)) (by (with_reducible repeat (first | refine yad ?_ _ | refine yaf ?_ | refine yae ?_ _)); exact yaw.out)) : yba ≠ ybg)); have n10_ := yap ((by rw [hg]; exact yao (blk_lt (g := yba) (o := .cells #[.slice Ao22 l0_0.length co22, .slice Ao23 l0_1.length co23, .int .i64 a0_2, .int .i64 a0_3, .int .i64 a0_4] 41 (0, 0)) (by (with_reducible repeat (first | refine yad ?_ _ | refine yaf ?_ | refine yae ?_ _)); exact yaw.out)) : ybg ≠ yba)); have n11_ := yap ((by rw [hg]; exact yan (blk_lt (g := ybb) (o := .cells #[.slice none 0 0, .slice none 0 0, .int .i64 0, .int .i64 0, .int .i64 0] 41 (0, 0)) (by (with_reducible repeat (first | refine yad ?_ _ | refine yaf ?_ | refine yae ?_ _)); exact ybf.out)) : ybb ≠ ybg)); have n12_ := yap ((by rw [hg]; exact yao (blk_lt (g := ybb) (o := .cells #[.slice none 0 0, .slice none 0 0, .int .i64 0, .int .i64 0, .int .i64 0] 41 (0, 0)) (by (with_reducible repeat (first | refine yad ?_ _ | refine yaf ?_ | refine yae ?_ _)); exact ybf.out)) : ybg ≠ ybb)); clear HO0_0; clear HO0_1; clear yaw; clear ybf; clear HK; clear HB; have HO0_0 := n0_; have HO0_1 := n1_; have yaw := n2_; have ybf := n3_; have HK := n4_; have HB := n5_; have ybp := n6_; have yci := n7_; have ycj := n8_; have yby := n9_; have ycg := n10_; have ybt := n11_; have ych := n12_; clear n0_ n1_ n2_ n3_ n4_ n5_ n6_ n7_ n8_ n9_ n10_ n11_ n12_; clear hb hbox hg; have hnb30 := ycg.out; have hnc30 := yby.out; have hnb31 := ych.out; have hnc31 := ybt.out; have yge : w29.cell? ⟨ybg, 0, none⟩ = some (.int .i64 0) := (yak ybp.out 0).trans rfl; have ygf : w29.cell? ⟨ybg, 1, none⟩ = some (.int .i64 0) := (yak ybp.out 1).trans rfl; have ygg : w29.cell? ⟨ybg, 2, none⟩ = some (.string (⟨#[]⟩ : ByteArray)) := (yak ybp.out 2).trans rfl; have ygh := yal ybp.out 0; have ygi := yal ybp.out 1; have ygj := yal ybp.out 2; have ygk : w29.cell? ⟨yba, 0, none⟩ = some (.slice Ao22 l0_0.length co22) := (yak yaw.out 0).trans rfl; have ygl : w29.cell? ⟨yba, 1, none⟩ = some (.slice Ao23 l0_1.length co23) := (yak yaw.out 1).trans rfl; have ygm : w29.cell? ⟨yba, 2, none⟩ = some (.int .i64 a0_2) := (yak yaw.out 2).trans rfl; have ygn : w29.cell? ⟨yba, 3, none⟩ = some (.int .i64 a0_3) := (yak yaw.out 3).trans rfl; have ygo : w29.cell? ⟨yba, 4, none⟩ = some (.int .i64 a0_4) := (yak yaw.out 4).trans rfl; have ygp := yal yaw.out 0; have ygq := yal yaw.out 1; have ygr := yal yaw.out 2; have ygs := yal yaw.out 3; have ygt := yal yaw.out 4; have ygu : w29.cell? ⟨ybb, 0, none⟩ = some (.slice none 0 0) := (yak ybf.out 0).trans rfl; have ygv : w29.cell? ⟨ybb, 1, none⟩ = some (.slice none 0 0) := (yak ybf.out 1).trans rfl; have ygw : w29.cell? ⟨ybb, 2, none⟩ = some (.int .i64 0) := (yak ybf.out 2).trans rfl; have ygx : w29.cell? ⟨ybb, 3, none⟩ = some (.int .i64 0) := (yak ybf.out 3).trans rfl; have ygy : w29.cell? ⟨ybb, 4, none⟩ = some (.int .i64 0) := (yak ybf.out 4).trans rfl; have ygz := yal ybf.out 0; have yha := yal ybf.out 1; have yhb := yal ybf.out 2; have yhc := yal ybf.out 3; have yhd := yal ybf.out 4))
  refine bodyPost_ret (results_ct rfl _ _ ybb 41 #[.slice Ao22 l0_0.length co22, .slice Ao23 l0_1.length co23, .int .i64 a0_2, .int .i64 a0_3, .int .i64 a0_4] (0, 0) _ rfl (by (with_reducible repeat (first | refine yad ?_ _ | refine yaf ?_ | refine yae ?_ _)); refine blk_put (cs := #[.slice Ao22 l0_0.length co22, .slice Ao23 l0_1.length co23, .int .i64 a0_2, .int .i64 a0_3, .int .i64 0]) ?_ 4 _ rfl; (with_reducible repeat (first | refine yad ?_ _ | refine yaf ?_ | refine yae ?_ _)); refine blk_put (cs := #[.slice Ao22 l0_0.length co22, .slice Ao23 l0_1.length co23, .int .i64 a0_2, .int .i64 0, .int .i64 0]) ?_ 3 _ rfl; (with_reducible repeat (first | refine yad ?_ _ | refine yaf ?_ | refine yae ?_ _)); refine blk_put (cs := #[.slice Ao22 l0_0.length co22, .slice Ao23 l0_1.length co23, .int .i64 0, .int .i64 0, .int .i64 0]) ?_ 2 _ rfl; (with_reducible repeat (first | refine yad ?_ _ | refine yaf ?_ | refine yae ?_ _)); refine blk_put (cs := #[.slice Ao22 l0_0.length co22, .slice none 0 0, .int .i64 0, .int .i64 0, .int .i64 0]) ?_ 1 _ rfl; (with_reducible repeat (first | refine yad ?_ _ | refine yaf ?_ | refine yae ?_ _)); refine blk_put (cs := #[.slice none 0 0, .slice none 0 0, .int .i64 0, .int .i64 0, .int .i64 0]) ?_ 0 _ rfl; (with_reducible repeat (first | refine yad ?_ _ | refine yaf ?_ | refine yae ?_ _)); refine blk_far ?_ ybt.out _; (with_reducible repeat (first | refine yad ?_ _ | refine yaf ?_ | refine yae ?_ _)); refine blk_far ?_ ybt.out _; (with_reducible repeat (first | refine yad ?_ _ | refine yaf ?_ | refine yae ?_ _)); refine blk_far ?_ ybt.out _; (with_reducible repeat (first | refine yad ?_ _ | refine yaf ?_ | refine yae ?_ _)); exact ybf.out) Try.underlying41 rfl (by kernel_rfl)) rfl ?_
  exact ⟨_, _, by first | rfl | (simp [errW_none, errW_some] <;> rfl) | (simp [*, errW_none, errW_some] <;> rfl), by (with_reducible repeat (first | apply Kd.R_alloc | apply Kd.R_drewN | apply Kd.R_drew)); exact Kd.R_mono (Kd.R_far (p := ⟨ybb, 4, none⟩) (Kd.R_far (p := ⟨ybb, 3, none⟩) (Kd.R_far (p := ⟨ybb, 2, none⟩) (Kd.R_far (p := ⟨ybb, 1, none⟩) (Kd.R_far (p := ⟨ybb, 0, none⟩) (Kd.R_far (p := ⟨ybg, 2, none⟩) (Kd.R_far (p := ⟨ybg, 1, none⟩) (Kd.R_far (p := ⟨ybg, 0, none⟩) (Kd.R_types (Kd.R_mono HO0_0.out (fun k_ hk => (⟨hk, hk.2⟩ : _ ∧ k_ ≠ ybg))) ybf.out (by decide)) (fun _ hk => hk.1.2) (.int .i64 t155)) (fun _ hk => hk.1.2) (.int .i64 t156)) (fun _ hk => hk.1.2) (.string t157)) (fun _ hk => hk.2) (.slice Ao22 l0_0.length co22)) (fun _ hk => hk.2) (.slice Ao23 l0_1.length co23)) (fun _ hk => hk.2) (.int .i64 a0_2)) (fun _ hk => hk.2) (.int .i64 a0_3)) (fun _ hk => hk.2) (.int .i64 a0_4)) (fun _ hk => hk.1.1.1), by (with_reducible repeat (first | apply Kd.R_alloc | apply Kd.R_drewN | apply Kd.R_drew)); exact Kd.R_mono (Kd.R_far (p := ⟨ybb, 4, none⟩) (Kd.R_far (p := ⟨ybb, 3, none⟩) (Kd.R_far (p := ⟨ybb, 2, none⟩) (Kd.R_far (p := ⟨ybb, 1, none⟩) (Kd.R_far (p := ⟨ybb, 0, none⟩) (Kd.R_far (p := ⟨ybg, 2, none⟩) (Kd.R_far (p := ⟨ybg, 1, none⟩) (Kd.R_far (p := ⟨ybg, 0, none⟩) (Kd.R_types (Kd.R_types HO0_1.out ybp.out (by decide)) ybf.out (by decide)) (fun _ hk => hk.1.2) (.int .i64 t155)) (fun _ hk => hk.1.2) (.int .i64 t156)) (fun _ hk => hk.1.2) (.string t157)) (fun _ hk => hk.2) (.slice Ao22 l0_0.length co22)) (fun _ hk => hk.2) (.slice Ao23 l0_1.length co23)) (fun _ hk => hk.2) (.int .i64 a0_2)) (fun _ hk => hk.2) (.int .i64 a0_3)) (fun _ hk => hk.2) (.int .i64 a0_4)) (fun _ hk => hk.1.1), by repeat (first | (with_reducible first | exact HB.out | apply yaj | apply yah | apply yai | refine yag ?_ ybv.out | refine yag ?_ yca.out | refine yag ?_ ycj.out) | exact HB.out), by repeat (first | (with_reducible first | exact HK.out | apply Kept.alloc | apply Kept.drewN | apply Kept.drew | refine Kept.setCell ?_ (.inr ybu.out) _ | refine Kept.setCell ?_ (.inr ybz.out) _ | refine Kept.setCell ?_ (.inr yci.out) _) | exact HK.out)⟩

end Go.Proofs.Ytodkackgdchocaa.Q
