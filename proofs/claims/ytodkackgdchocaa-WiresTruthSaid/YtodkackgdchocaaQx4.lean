/- Written by a program of this session (wip/patch_print.py over the kit's print): functions of the given program as plain Lean functions, and that each call does what its function says, under no further conditions. -/
import Derived.Test.YtodkackgdchocaaQx0
import Derived.Test.YtodkackgdchocaaQx2
namespace Go.Proofs.Ytodkackgdchocaa.Q
open Go.RowKit Go.Proofs.YtodkackgdchocaaW.PrintWords Go.Proofs.YtodkackgdchocaaW.PrintLast Go.Proofs.YtodkackgdchocaaW.PrintMore
attribute [local go_sem] max2_int min2_int max_two min_two max_three min_three max_four min_four   -- for this text's walks alone
set_option linter.unusedVariables false
set_option linter.unusedSimpArgs false

attribute [local go_sem] xor_ones_u8 xor_ones_u16 xor_ones_u32 xor_ones_u64 cell_twice frozen_twice
abbrev jaa := @List.setIfInBounds_toArray
abbrev jab := @List.set_cons_zero
abbrev jac := @List.set_cons_succ
abbrev jad := @blk_drewN
abbrev jae := @blk_alloc
abbrev jaf := @blk_drew
abbrev jag := @below_set
abbrev jah := @pw_below_drewN
abbrev jai := @below_drew1
abbrev jaj := @below_alloc
abbrev jak := @blk_cell
abbrev jal := @blk_frozen
abbrev jam := @Nat.ne_of_lt
abbrev jan := @Nat.ne_of_gt
abbrev jao := @Aside0.mk
abbrev jsq0 : Array Bool := #[false, false, false, false, false, false, false, false, false]
abbrev jsq1 : Array Bool := #[false, true, false, false, false, false, false, false, false]
abbrev jsq2 : Array Bool := #[false, true, true, false, false, false, false, false, false]
abbrev jsq3 : Array Bool := #[false, true, true, false, true, false, false, false, false]
abbrev jsq4 : Array Bool := #[true, true, true, false, true, false, false, false, false]
abbrev jsq5 : Array Bool := #[false, true, true, false, true, true, false, false, false]
/-! ### stowageref08_Wires_Double: function 31 -/
def stowageref08_Wires_Double.f (l0_0 : List (S60)) (l0_1 : List (S71)) (a0_2 : Int) (a0_3 : Int) (a0_4 : Int) (a1 : Int) : Option ((List (S60)) × (List (S71)) × Int × Int × Int × Bool) := (stowageref08_Wires_At.f l0_0 l0_1 a0_2 a0_3 a0_4 a1).bind fun bt165 => (if bt165.2.2.2 = true then (if (l0_0.length : Int) ≥ 4096 then (some (l0_0, l0_1, a0_2, a0_3, a0_4, false)) else ((some (([] : List (S60)) : List (S60))).bind fun y170 => (if y170.length + l0_0.length < 4398046511104 then ((some (y170 ++ l0_0 : List (S60))).bind fun y173 => ((some (([(⟨bt165.1, bt165.2.1, bt165.2.2.1⟩ : S60)] : List (S60)) : List (S60))).bind fun y176 => (if y173.length + y176.length < 4398046511104 then (some ((y173 ++ y176), l0_1, wrap64 (a0_2 + 1), a0_3, a0_4, true)) else (none)))) else (none)))) else (some (l0_0, l0_1, a0_2, a0_3, a0_4, false)))
def stowageref08_Wires_Double.T4 : Bool × List (List Nat × List Nat) := (true, [([], []), ([], []), ([1], [1]), ([0, 2], [0, 2]), ([], []), ([4], [4]), ([3, 5, 3], [3, 5]), ([0, 1, 2, 3, 4, 5, 6], []), ([7, 6, 6, 0, 1, 2, 3, 4, 5, 6], [6, 7])])
def stowageref08_Wires_Double.B4 : List Nat := [0, 0, 2, 7, 0, 16, 63, 127, 255]
theorem stowageref08_Wires_Double.tab4 : rtab .any (opsOf Try.f31 4) = stowageref08_Wires_Double.T4 := by kernel_rfl
theorem stowageref08_Wires_Double.bits4 : waitsOk stowageref08_Wires_Double.T4.2 stowageref08_Wires_Double.B4 = true := by kernel_rfl
set_option maxHeartbeats 8000000 in
set_option maxRecDepth 100000 in
theorem stowageref08_Wires_Double.calls (P0_0_ : Nat → Prop) (u9000_ : Value) (l0_0 : List (S60)) (P0_1_ : Nat → Prop) (u9001_ : Value) (l0_1 : List (S71)) (a0_2 : Int) (a0_3 : Int) (a0_4 : Int) (a1 : Int) (r1 : List (S60)) (r2 : List (S71)) (r3 : Int) (r4 : Int) (r5 : Int) (r6 : Bool) (w0 w : World) (hB : Below w0.heap.size w0 w) (ho0_0 : Kd.R k60 60 w w0.heap.size P0_0_ u9000_ l0_0) (ho0_1 : Kd.R k71 71 w w0.heap.size P0_1_ u9001_ l0_1) (h : f l0_0 l0_1 a0_2 a0_3 a0_4 a1 = some (r1, r2, r3, r4, r5, r6)) :
  Calls Try.prog 31 #[.agg #[u9000_, u9001_, .int .i64 a0_2, .int .i64 a0_3, .int .i64 a0_4], .int .i64 a1] w fun e w' => ∃ v0_ v1_ : Value, e = .returned (.tuple #[.agg #[v0_, v1_, .int .i64 r3, .int .i64 r4, .int .i64 r5], .bool r6]) ∧ Kd.R k60 60 w' w0.heap.size (fun k_ => ((P0_0_ k_ ∨ P0_1_ k_) ∨ w.heap.size ≤ k_)) v0_ r1 ∧ Kd.R k71 71 w' w0.heap.size (fun k_ => ((P0_0_ k_ ∨ P0_1_ k_) ∨ w.heap.size ≤ k_)) v1_ r2 ∧ Below w0.heap.size w0 w' ∧ Kept w w' (fun k_ => P0_0_ k_ ∨ P0_1_ k_) := by
 have hu41 := Try.underlying41
 have hu60 := Try.underlying60
 have HO0_0 := jao (show Kd.R k60 60 w w0.heap.size (fun k_ => ((P0_0_ k_ ∨ P0_1_ k_) ∨ w.heap.size ≤ k_)) u9000_ l0_0 from Kd.R_mono ho0_0 (fun k_ hk => (.inl (.inl hk))))
 have HO0_1 := jao (show Kd.R k71 71 w w0.heap.size (fun k_ => ((P0_0_ k_ ∨ P0_1_ k_) ∨ w.heap.size ≤ k_)) u9001_ l0_1 from Kd.R_mono ho0_1 (fun k_ hk => (.inl (.inr hk))))
 have HK := jao (Kept.refl w (fun k_ => P0_0_ k_ ∨ P0_1_ k_))
 have HW0 := jao hB.size
 have HB := jao hB
 clear hB
 have H : ((stowageref08_Wires_At.f l0_0 l0_1 a0_2 a0_3 a0_4 a1).bind fun bt165 => (if bt165.2.2.2 = true then (if (l0_0.length : Int) ≥ 4096 then (some (l0_0, l0_1, a0_2, a0_3, a0_4, false)) else ((some (([] : List (S60)) : List (S60))).bind fun y170 => (if y170.length + l0_0.length < 4398046511104 then ((some (y170 ++ l0_0 : List (S60))).bind fun y173 => ((some (([(⟨bt165.1, bt165.2.1, bt165.2.2.1⟩ : S60)] : List (S60)) : List (S60))).bind fun y176 => (if y173.length + y176.length < 4398046511104 then (some ((y173 ++ y176), l0_1, wrap64 (a0_2 + 1), a0_3, a0_4, true)) else (none)))) else (none)))) else (some (l0_0, l0_1, a0_2, a0_3, a0_4, false)))) = some (r1, r2, r3, r4, r5, r6) := h
 clear h
 replace H := Option.bind_eq_some_iff.mp H
 obtain ⟨⟨t165, t166, t167, t168⟩, A30, H⟩ := H
 replace H : (if t168 = true then (if (l0_0.length : Int) ≥ 4096 then (some (l0_0, l0_1, a0_2, a0_3, a0_4, false)) else ((some (([] : List (S60)) : List (S60))).bind fun y170 => (if y170.length + l0_0.length < 4398046511104 then ((some (y170 ++ l0_0 : List (S60))).bind fun y173 => ((some (([(⟨t165, t166, t167⟩ : S60)] : List (S60)) : List (S60))).bind fun y176 => (if y173.length + y176.length < 4398046511104 then (some ((y173 ++ y176), l0_1, wrap64 (a0_2 + 1), a0_3, a0_4, true)) else (none)))) else (none)))) else (some (l0_0, l0_1, a0_2, a0_3, a0_4, false))) = some (r1, r2, r3, r4, r5, r6) := H
 have A3 := jao A30
 clear A30
 by_cases c4 : t168 = true
 ·subst c4
  have H1 : (if (l0_0.length : Int) ≥ 4096 then (some (l0_0, l0_1, a0_2, a0_3, a0_4, false)) else ((some (([] : List (S60)) : List (S60))).bind fun y170 => (if y170.length + l0_0.length < 4398046511104 then ((some (y170 ++ l0_0 : List (S60))).bind fun y173 => ((some (([(⟨t165, t166, t167⟩ : S60)] : List (S60)) : List (S60))).bind fun y176 => (if y173.length + y176.length < 4398046511104 then (some ((y173 ++ y176), l0_1, wrap64 (a0_2 + 1), a0_3, a0_4, true)) else (none)))) else (none)))) = some (r1, r2, r3, r4, r5, r6) := by rw [if_pos rfl] at H; exact H
  clear H
  have H := H1
  clear H1
  by_cases c5 : (l0_0.length : Int) ≥ 4096
  ·rw [if_pos c5] at H
   have c5b0 : decide (4096 ≤ (l0_0.length : Int)) = true := decide_eq_true c5
   have c5b1 : decide (4096 ≤ l0_0.length) = true := decide_eq_true (by omega)
   clear c5
   simp only [Option.some.injEq, Prod.mk.injEq] at H
   obtain ⟨rfl, rfl, rfl, rfl, rfl, rfl⟩ := H
   obtain ⟨Ao6, co6, eo6⟩ := Kd.R_slice HO0_0.out
   subst eo6
   obtain ⟨Ao7, co7, eo7⟩ := Kd.R_slice HO0_1.out
   subst eo7
   go_enter Try.func31, Try.ntmps31
   go_wp2_with (first | ((with_reducible refine gate_dst (N := 2) rfl ?_); (try (refine gate_guard (by rfl) ?_; dsimp only)); refine box_event ?hg (N := 2) ?hd (cs := #[.slice Ao6 l0_0.length co6, .slice Ao7 l0_1.length co7, .int .i64 a0_2, .int .i64 a0_3, .int .i64 a0_4]) (t := 41) ?hr ?_; (case hd => rfl); (case hg => rfl); (case hr => first | (go_simp; done) | (go_simp; rfl)); intro jar hg w8 hbox hb; have n0_ := jao (Kd.R_below (by (with_reducible repeat (first | apply Kd.R_alloc | apply Kd.R_drewN | apply Kd.R_drew)); exact HO0_0.out) hb); have n1_ := jao (Kd.R_below (by (with_reducible repeat (first | apply Kd.R_alloc | apply Kd.R_drewN | apply Kd.R_drew)); exact HO0_1.out) hb); have n2_ := jao (Kept.below (S := (fun k_ => P0_0_ k_ ∨ P0_1_ k_)) (by repeat (first | (with_reducible first | exact HK.out | apply Kept.alloc | apply Kept.drewN | apply Kept.drew) | exact HK.out)) hb); have n3_ := jao (below_step (by repeat (first | (with_reducible first | exact HB.out | apply jaj | apply jah | apply jai) | exact HB.out)) hb); have n4_ := jao (hbox); have n5_ := jao ((by rw [hg]; exact (by first | exact HK.out.1 | exact (show Kept w _ (fun k_ => P0_0_ k_ ∨ P0_1_ k_) from by repeat (first | (with_reducible first | exact HK.out | apply Kept.alloc | apply Kept.drewN | apply Kept.drew) | exact HK.out)).1) : w.heap.size ≤ jar)); have n6_ := jao ((by rw [hg]; exact (below_size (by repeat (first | (with_reducible first | exact HB.out | apply jaj | apply jah | apply jai) | exact HB.out))) : w0.heap.size ≤ jar)); clear HO0_0; clear HO0_1; clear HK; clear HB; have HO0_0 := n0_; have HO0_1 := n1_; have HK := n2_; have HB := n3_; have jap := n4_; have jav := n5_; have jaw := n6_; clear n0_ n1_ n2_ n3_ n4_ n5_ n6_; clear hb hbox hg) | ((with_reducible refine gate_dst (N := 4) rfl ?_); (try (refine gate_guard (by rfl) ?_; dsimp only)); refine box_event ?hg (N := 4) ?hd (cs := #[.slice none 0 0, .slice none 0 0, .int .i64 0, .int .i64 0, .int .i64 0]) (t := 41) ?hr ?_; (case hd => rfl); (case hg => rfl); (case hr => first | (go_simp; done) | (go_simp; rfl)); intro jau hg w9 hbox hb; have n0_ := jao (Kd.R_below (by (with_reducible repeat (first | apply Kd.R_alloc | apply Kd.R_drewN | apply Kd.R_drew)); exact HO0_0.out) hb); have n1_ := jao (Kd.R_below (by (with_reducible repeat (first | apply Kd.R_alloc | apply Kd.R_drewN | apply Kd.R_drew)); exact HO0_1.out) hb); have n2_ := jao (blk_below (g := jar) (o := .cells #[.slice Ao6 l0_0.length co6, .slice Ao7 l0_1.length co7, .int .i64 a0_2, .int .i64 a0_3, .int .i64 a0_4] 41 (0, 0)) (by (with_reducible repeat (first | refine jad ?_ _ | refine jaf ?_ | refine jae ?_ _)); exact jap.out) hb); have n3_ := jao (Kept.below (S := (fun k_ => P0_0_ k_ ∨ P0_1_ k_)) (by repeat (first | (with_reducible first | exact HK.out | apply Kept.alloc | apply Kept.drewN | apply Kept.drew | refine Kept.setCell ?_ (.inr jav.out) _) | exact HK.out)) hb); have n4_ := jao (below_step (by repeat (first | (with_reducible first | exact HB.out | apply jaj | apply jah | apply jai | refine jag ?_ jaw.out) | exact HB.out)) hb); have n5_ := jao (hbox); have n6_ := jao ((by rw [hg]; exact (by first | exact HK.out.1 | exact (show Kept w _ (fun k_ => P0_0_ k_ ∨ P0_1_ k_) from by repeat (first | (with_reducible first | exact HK.out | apply Kept.alloc | apply Kept.drewN | apply Kept.drew | refine Kept.setCell ?_ (.inr jav.out) _) | exact HK.out)).1) : w.heap.size ≤ jau)); have n7_ := jao ((by rw [hg]; exact (below_size (by repeat (first | (with_reducible first | exact HB.out | apply jaj | apply jah | apply jai | refine jag ?_ jaw.out) | exact HB.out))) : w0.heap.size ≤ jau)); have n8_ := jao ((by rw [hg]; exact jam (blk_lt (g := jar) (o := .cells #[.slice Ao6 l0_0.length co6, .slice Ao7 l0_1.length co7, .int .i64 a0_2, .int .i64 a0_3, .int .i64 a0_4] 41 (0, 0)) (by (with_reducible repeat (first | refine jad ?_ _ | refine jaf ?_ | refine jae ?_ _)); exact jap.out)) : jar ≠ jau)); have n9_ := jao ((by rw [hg]; exact jan (blk_lt (g := jar) (o := .cells #[.slice Ao6 l0_0.length co6, .slice Ao7 l0_1.length co7, .int .i64 a0_2, .int .i64 a0_3, .int .i64 a0_4] 41 (0, 0)) (by (with_reducible repeat (first | refine jad ?_ _ | refine jaf ?_ | refine jae ?_ _)); exact jap.out)) : jau ≠ jar)); clear HO0_0; clear HO0_1; clear jap; clear HK; clear HB; have HO0_0 := n0_; have HO0_1 := n1_; have jap := n2_; have HK := n3_; have HB := n4_; have jas := n5_; have jax := n6_; have jay := n7_; have jbe := n8_; have jbd := n9_; clear n0_ n1_ n2_ n3_ n4_ n5_ n6_ n7_ n8_ n9_; clear hb hbox hg; have hnb10 := jbe.out; have hnc10 := jbd.out; have jbh : w9.cell? ⟨jar, 0, none⟩ = some (.slice Ao6 l0_0.length co6) := (jak jap.out 0).trans rfl; have jbi : w9.cell? ⟨jar, 1, none⟩ = some (.slice Ao7 l0_1.length co7) := (jak jap.out 1).trans rfl; have jbj : w9.cell? ⟨jar, 2, none⟩ = some (.int .i64 a0_2) := (jak jap.out 2).trans rfl; have jbk : w9.cell? ⟨jar, 3, none⟩ = some (.int .i64 a0_3) := (jak jap.out 3).trans rfl; have jbl : w9.cell? ⟨jar, 4, none⟩ = some (.int .i64 a0_4) := (jak jap.out 4).trans rfl; have jbm := jal jap.out 0; have jbn := jal jap.out 1; have jbo := jal jap.out 2; have jbp := jal jap.out 3; have jbq := jal jap.out 4) | ((with_reducible refine gate_callee (f := 34) rfl ?_); refine goesL_ (some 11) rfl rfl Try.func34 (by kernel_rfl) rfl #[.agg #[.slice Ao6 l0_0.length co6, .slice Ao7 l0_1.length co7, .int .i64 a0_2, .int .i64 a0_3, .int .i64 a0_4], .int .i64 a1] rfl (by (try simp only [List.map_toArray, List.map_cons, List.map_nil]); first | done | rfl) ?_; (with_reducible refine (stowageref08_Wires_At.calls _ _ l0_0 _ _ l0_1 a0_2 a0_3 a0_4 a1 t165 t166 t167 true _ ?side1 ?side2 ?side3 ?side4 A3.out).mono ?_); (case side1 => repeat (first | exact (Kd.R_reads' HO0_0.out).2.2 | (with_reducible refine Kd.C_alloc ?_ _) | (with_reducible refine Kd.C_drewN ?_ _) | (with_reducible refine Kd.C_drew ?_))); (case side2 => exact (Kd.R_reads' HO0_0.out).2.1); (case side3 => repeat (first | exact (Kd.R_reads' HO0_1.out).2.2 | (with_reducible refine Kd.C_alloc ?_ _) | (with_reducible refine Kd.C_drewN ?_ _) | (with_reducible refine Kd.C_drew ?_))); (case side4 => exact (Kd.R_reads' HO0_1.out).2.1); rintro e w12 ⟨rfl, hb⟩; refine ⟨_, rfl, ?_⟩; have n0_ := jao (Kd.R_below (by (with_reducible repeat (first | apply Kd.R_alloc | apply Kd.R_drewN | apply Kd.R_drew)); exact HO0_0.out) hb); have n1_ := jao (Kd.R_below (by (with_reducible repeat (first | apply Kd.R_alloc | apply Kd.R_drewN | apply Kd.R_drew)); exact HO0_1.out) hb); have n2_ := jao (blk_below (g := jar) (o := .cells #[.slice Ao6 l0_0.length co6, .slice Ao7 l0_1.length co7, .int .i64 a0_2, .int .i64 a0_3, .int .i64 a0_4] 41 (0, 0)) (by (with_reducible repeat (first | refine jad ?_ _ | refine jaf ?_ | refine jae ?_ _)); exact jap.out) hb); have n3_ := jao (blk_below (g := jau) (o := .cells #[.slice none 0 0, .slice none 0 0, .int .i64 0, .int .i64 0, .int .i64 0] 41 (0, 0)) (by (with_reducible repeat (first | refine jad ?_ _ | refine jaf ?_ | refine jae ?_ _)); exact jas.out) hb); have n4_ := jao (Kept.below (S := (fun k_ => P0_0_ k_ ∨ P0_1_ k_)) (by repeat (first | (with_reducible first | exact HK.out | apply Kept.alloc | apply Kept.drewN | apply Kept.drew | refine Kept.setCell ?_ (.inr jav.out) _ | refine Kept.setCell ?_ (.inr jax.out) _) | exact HK.out)) hb); have n5_ := jao (below_step (by repeat (first | (with_reducible first | exact HB.out | apply jaj | apply jah | apply jai | refine jag ?_ jaw.out | refine jag ?_ jay.out) | exact HB.out)) hb); clear HO0_0; clear HO0_1; clear jap; clear jas; clear HK; clear HB; have HO0_0 := n0_; have HO0_1 := n1_; have jap := n2_; have jas := n3_; have HK := n4_; have HB := n5_; clear n0_ n1_ n2_ n3_ n4_ n5_; (try clear hb); (try clear hk); (try clear hi)) | ((with_reducible refine gate_dst (N := 6) rfl ?_); (try (refine gate_guard (by rfl) ?_; dsimp only)); refine box_event ?hg (N := 6) ?hd (cs := #[.int .i64 0, .int .i64 0, .string (⟨#[]⟩ : ByteArray)]) (t := 60) ?hr ?_; (case hd => rfl); (case hg => rfl); (case hr => first | (go_simp; done) | (go_simp; rfl)); intro jaq hg w13 hbox hb; have n0_ := jao (Kd.R_below (Kd.R_elderB (by (with_reducible repeat (first | apply Kd.R_alloc | apply Kd.R_drewN | apply Kd.R_drew)); exact HO0_0.out) jaq (Nat.le_of_eq hg.symm)) hb); have n1_ := jao (Kd.R_below (by (with_reducible repeat (first | apply Kd.R_alloc | apply Kd.R_drewN | apply Kd.R_drew)); exact HO0_1.out) hb); have n2_ := jao (blk_below (g := jar) (o := .cells #[.slice Ao6 l0_0.length co6, .slice Ao7 l0_1.length co7, .int .i64 a0_2, .int .i64 a0_3, .int .i64 a0_4] 41 (0, 0)) (by (with_reducible repeat (first | refine jad ?_ _ | refine jaf ?_ | refine jae ?_ _)); exact jap.out) hb); have n3_ := jao (blk_below (g := jau) (o := .cells #[.slice none 0 0, .slice none 0 0, .int .i64 0, .int .i64 0, .int .i64 0] 41 (0, 0)) (by (with_reducible repeat (first | refine jad ?_ _ | refine jaf ?_ | refine jae ?_ _)); exact jas.out) hb); have n4_ := jao (Kept.below (S := (fun k_ => P0_0_ k_ ∨ P0_1_ k_)) (by repeat (first | (with_reducible first | exact HK.out | apply Kept.alloc | apply Kept.drewN | apply Kept.drew | refine Kept.setCell ?_ (.inr jav.out) _ | refine Kept.setCell ?_ (.inr jax.out) _) | exact HK.out)) hb); have n5_ := jao (below_step (by repeat (first | (with_reducible first | exact HB.out | apply jaj | apply jah | apply jai | refine jag ?_ jaw.out | refine jag ?_ jay.out) | exact HB.out)) hb); have n6_ := jao (hbox); have n7_ := jao ((by rw [hg]; exact (by first | exact HK.out.1 | exact (show Kept w _ (fun k_ => P0_0_ k_ ∨ P0_1_ k_) from by repeat (first | (with_reducible first | exact HK.out | apply Kept.alloc | apply Kept.drewN | apply Kept.drew | refine Kept.setCell ?_ (.inr jav.out) _ | refine Kept.setCell ?_ (.inr jax.out) _) | exact HK.out)).1) : w.heap.size ≤ jaq)); have n8_ := jao ((by rw [hg]; exact (below_size (by repeat (first | (with_reducible first | exact HB.out | apply jaj | apply jah | apply jai | refine jag ?_ jaw.out | refine jag ?_ jay.out) | exact HB.out))) : w0.heap.size ≤ jaq)); have n9_ := jao ((by rw [hg]; exact jam (blk_lt (g := jar) (o := .cells #[.slice Ao6 l0_0.length co6, .slice Ao7 l0_1.length co7, .int .i64 a0_2, .int .i64 a0_3, .int .i64 a0_4] 41 (0, 0)) (by (with_reducible repeat (first | refine jad ?_ _ | refine jaf ?_ | refine jae ?_ _)); exact jap.out)) : jar ≠ jaq)); have n10_ := jao ((by rw [hg]; exact jan (blk_lt (g := jar) (o := .cells #[.slice Ao6 l0_0.length co6, .slice Ao7 l0_1.length co7, .int .i64 a0_2, .int .i64 a0_3, .int .i64 a0_4] 41 (0, 0)) (by (with_reducible repeat (first | refine jad ?_ _ | refine jaf ?_ | refine jae ?_ _)); exact jap.out)) : jaq ≠ jar)); have n11_ := jao ((by rw [hg]; exact jam (blk_lt (g := jau) (o := .cells #[.slice none 0 0, .slice none 0 0, .int .i64 0, .int .i64 0, .int .i64 0] 41 (0, 0)) (by (with_reducible repeat (first | refine jad ?_ _ | refine jaf ?_ | refine jae ?_ _)); exact jas.out)) : jau ≠ jaq)); have n12_ := jao ((by rw [hg]; exact jan (blk_lt (g := jau) (o := .cells #[.slice none 0 0, .slice none 0 0, .int .i64 0, .int .i64 0, .int .i64 0] 41 (0, 0)) (by (with_reducible repeat (first | refine jad ?_ _ | refine jaf ?_ | refine jae ?_ _)); exact jas.out)) : jaq ≠ jau)); clear HO0_0; clear HO0_1; clear jap; clear jas; clear HK; clear HB; have HO0_0 := n0_; have HO0_1 := n1_; have jap := n2_; have jas := n3_; have HK := n4_; have HB := n5_; have jat := n6_; have jaz := n7_; have jba := n8_; have jbc := n9_; have jbf := n10_; have jbb := n11_; have jbg := n12_; clear n0_ n1_ n2_ n3_ n4_ n5_ n6_ n7_ n8_ n9_ n10_ n11_ n12_; clear hb hbox hg; have hnb14 := jbf.out; have hnc14 := jbc.out; have hnb15 := jbg.out; have hnc15 := jbb.out; have jbr : w13.cell? ⟨jaq, 0, none⟩ = some (.int .i64 0) := (jak jat.out 0).trans rfl; have jbs : w13.cell? ⟨jaq, 1, none⟩ = some (.int .i64 0) := (jak jat.out 1).trans rfl; have jbt : w13.cell? ⟨jaq, 2, none⟩ = some (.string (⟨#[]⟩ : ByteArray)) := (jak jat.out 2).trans rfl; have jbu := jal jat.out 0; have jbv := jal jat.out 1; have jbw := jal jat.out 2; have jbx : w13.cell? ⟨jar, 0, none⟩ = some (.slice Ao6 l0_0.length co6) := (jak jap.out 0).trans rfl; have jby : w13.cell? ⟨jar, 1, none⟩ = some (.slice Ao7 l0_1.length co7) := (jak jap.out 1).trans rfl; have jbz : w13.cell? ⟨jar, 2, none⟩ = some (.int .i64 a0_2) := (jak jap.out 2).trans rfl; have jca : w13.cell? ⟨jar, 3, none⟩ = some (.int .i64 a0_3) := (jak jap.out 3).trans rfl; have jcb : w13.cell? ⟨jar, 4, none⟩ = some (.int .i64 a0_4) := (jak jap.out 4).trans rfl; have jcc := jal jap.out 0; have jcd := jal jap.out 1; have jce := jal jap.out 2; have jcf := jal jap.out 3; have jcg := jal jap.out 4; have jch : w13.cell? ⟨jau, 0, none⟩ = some (.slice none 0 0) := (jak jas.out 0).trans rfl; have jci : w13.cell? ⟨jau, 1, none⟩ = some (.slice none 0 0) := (jak jas.out 1).trans rfl; have jcj : w13.cell? ⟨jau, 2, none⟩ = some (.int .i64 0) := (jak jas.out 2).trans rfl; have jck : w13.cell? ⟨jau, 3, none⟩ = some (.int .i64 0) := (jak jas.out 3).trans rfl; have jcl : w13.cell? ⟨jau, 4, none⟩ = some (.int .i64 0) := (jak jas.out 4).trans rfl; have jcm := jal jas.out 0; have jcn := jal jas.out 1; have jco := jal jas.out 2; have jcp := jal jas.out 3; have jcq := jal jas.out 4))
   refine bodyPost_ret (results_ct rfl _ _ jau 41 #[.slice Ao6 l0_0.length co6, .slice Ao7 l0_1.length co7, .int .i64 a0_2, .int .i64 a0_3, .int .i64 a0_4] (0, 0) _ rfl (by (with_reducible repeat (first | refine jad ?_ _ | refine jaf ?_ | refine jae ?_ _)); refine blk_put (cs := #[.slice Ao6 l0_0.length co6, .slice Ao7 l0_1.length co7, .int .i64 a0_2, .int .i64 a0_3, .int .i64 0]) ?_ 4 _ rfl; (with_reducible repeat (first | refine jad ?_ _ | refine jaf ?_ | refine jae ?_ _)); refine blk_put (cs := #[.slice Ao6 l0_0.length co6, .slice Ao7 l0_1.length co7, .int .i64 a0_2, .int .i64 0, .int .i64 0]) ?_ 3 _ rfl; (with_reducible repeat (first | refine jad ?_ _ | refine jaf ?_ | refine jae ?_ _)); refine blk_put (cs := #[.slice Ao6 l0_0.length co6, .slice Ao7 l0_1.length co7, .int .i64 0, .int .i64 0, .int .i64 0]) ?_ 2 _ rfl; (with_reducible repeat (first | refine jad ?_ _ | refine jaf ?_ | refine jae ?_ _)); refine blk_put (cs := #[.slice Ao6 l0_0.length co6, .slice none 0 0, .int .i64 0, .int .i64 0, .int .i64 0]) ?_ 1 _ rfl; (with_reducible repeat (first | refine jad ?_ _ | refine jaf ?_ | refine jae ?_ _)); refine blk_put (cs := #[.slice none 0 0, .slice none 0 0, .int .i64 0, .int .i64 0, .int .i64 0]) ?_ 0 _ rfl; (with_reducible repeat (first | refine jad ?_ _ | refine jaf ?_ | refine jae ?_ _)); refine blk_far ?_ jbb.out _; (with_reducible repeat (first | refine jad ?_ _ | refine jaf ?_ | refine jae ?_ _)); refine blk_far ?_ jbb.out _; (with_reducible repeat (first | refine jad ?_ _ | refine jaf ?_ | refine jae ?_ _)); refine blk_far ?_ jbb.out _; (with_reducible repeat (first | refine jad ?_ _ | refine jaf ?_ | refine jae ?_ _)); exact jas.out) Try.underlying41 rfl (by kernel_rfl)) rfl ?_
   exact ⟨_, _, by first | rfl | (simp [errW_none, errW_some] <;> rfl) | (simp [*, errW_none, errW_some] <;> rfl), by (with_reducible repeat (first | apply Kd.R_alloc | apply Kd.R_drewN | apply Kd.R_drew)); exact Kd.R_mono (Kd.R_far (p := ⟨jau, 4, none⟩) (Kd.R_far (p := ⟨jau, 3, none⟩) (Kd.R_far (p := ⟨jau, 2, none⟩) (Kd.R_far (p := ⟨jau, 1, none⟩) (Kd.R_far (p := ⟨jau, 0, none⟩) (Kd.R_far (p := ⟨jaq, 2, none⟩) (Kd.R_far (p := ⟨jaq, 1, none⟩) (Kd.R_far (p := ⟨jaq, 0, none⟩) (Kd.R_types (Kd.R_mono HO0_0.out (fun k_ hk => (⟨hk, hk.2⟩ : _ ∧ k_ ≠ jaq))) jas.out (by decide)) (fun _ hk => hk.1.2) (.int .i64 t165)) (fun _ hk => hk.1.2) (.int .i64 t166)) (fun _ hk => hk.1.2) (.string t167)) (fun _ hk => hk.2) (.slice Ao6 l0_0.length co6)) (fun _ hk => hk.2) (.slice Ao7 l0_1.length co7)) (fun _ hk => hk.2) (.int .i64 a0_2)) (fun _ hk => hk.2) (.int .i64 a0_3)) (fun _ hk => hk.2) (.int .i64 a0_4)) (fun _ hk => hk.1.1.1), by (with_reducible repeat (first | apply Kd.R_alloc | apply Kd.R_drewN | apply Kd.R_drew)); exact Kd.R_mono (Kd.R_far (p := ⟨jau, 4, none⟩) (Kd.R_far (p := ⟨jau, 3, none⟩) (Kd.R_far (p := ⟨jau, 2, none⟩) (Kd.R_far (p := ⟨jau, 1, none⟩) (Kd.R_far (p := ⟨jau, 0, none⟩) (Kd.R_far (p := ⟨jaq, 2, none⟩) (Kd.R_far (p := ⟨jaq, 1, none⟩) (Kd.R_far (p := ⟨jaq, 0, none⟩) (Kd.R_types (Kd.R_types HO0_1.out jat.out (by decide)) jas.out (by decide)) (fun _ hk => hk.1.2) (.int .i64 t165)) (fun _ hk => hk.1.2) (.int .i64 t166)) (fun _ hk => hk.1.2) (.string t167)) (fun _ hk => hk.2) (.slice Ao6 l0_0.length co6)) (fun _ hk => hk.2) (.slice Ao7 l0_1.length co7)) (fun _ hk => hk.2) (.int .i64 a0_2)) (fun _ hk => hk.2) (.int .i64 a0_3)) (fun _ hk => hk.2) (.int .i64 a0_4)) (fun _ hk => hk.1.1), by repeat (first | (with_reducible first | exact HB.out | apply jaj | apply jah | apply jai | refine jag ?_ jaw.out | refine jag ?_ jay.out | refine jag ?_ jba.out) | exact HB.out), by repeat (first | (with_reducible first | exact HK.out | apply Kept.alloc | apply Kept.drewN | apply Kept.drew | refine Kept.setCell ?_ (.inr jav.out) _ | refine Kept.setCell ?_ (.inr jax.out) _ | refine Kept.setCell ?_ (.inr jaz.out) _) | exact HK.out)⟩
  ·rw [if_neg c5] at H
   have c5b0 : decide (4096 ≤ (l0_0.length : Int)) = false := decide_eq_false c5
   have c5b1 : decide (4096 ≤ l0_0.length) = false := decide_eq_false (by omega)
   clear c5
   obtain ⟨y170, hy170⟩ : ∃ y_ : List (S60), y_ = (([] : List (S60))) := ⟨_, rfl⟩
   replace H : (if y170.length + l0_0.length < 4398046511104 then ((some (y170 ++ l0_0 : List (S60))).bind fun y173 => ((some (([(⟨t165, t166, t167⟩ : S60)] : List (S60)) : List (S60))).bind fun y176 => (if y173.length + y176.length < 4398046511104 then (some ((y173 ++ y176), l0_1, wrap64 (a0_2 + 1), a0_3, a0_4, true)) else (none)))) else (none)) = some (r1, r2, r3, r4, r5, r6) := by first | (rw [hy170]; with_reducible exact H) | (have H2_ := (Option.bind_some _ _).symm.trans H; rw [hy170]; with_reducible exact H2_) | (have H2_ := (Option.bind_some _ _).symm.trans H; with_reducible exact H2_) | with_reducible exact H | (rw [hy170]; exact H) | exact H
   have Ny170 := jao hy170
   clear hy170
   by_cases c19 : y170.length + l0_0.length < 4398046511104
   ·rw [if_pos c19] at H
    have LMc19 := jao c19
    clear c19
    obtain ⟨y173, hy173⟩ : ∃ y_ : List (S60), y_ = (y170 ++ l0_0) := ⟨_, rfl⟩
    replace H : ((some (([(⟨t165, t166, t167⟩ : S60)] : List (S60)) : List (S60))).bind fun y176 => (if y173.length + y176.length < 4398046511104 then (some ((y173 ++ y176), l0_1, wrap64 (a0_2 + 1), a0_3, a0_4, true)) else (none))) = some (r1, r2, r3, r4, r5, r6) := by first | (rw [hy173]; with_reducible exact H) | (have H2_ := (Option.bind_some _ _).symm.trans H; rw [hy173]; with_reducible exact H2_) | (have H2_ := (Option.bind_some _ _).symm.trans H; with_reducible exact H2_) | with_reducible exact H | (rw [hy173]; exact H) | exact H
    have Ny173 := jao hy173
    clear hy173
    obtain ⟨y176, hy176⟩ : ∃ y_ : List (S60), y_ = (([(⟨t165, t166, t167⟩ : S60)] : List (S60))) := ⟨_, rfl⟩
    replace H : (if y173.length + y176.length < 4398046511104 then (some ((y173 ++ y176), l0_1, wrap64 (a0_2 + 1), a0_3, a0_4, true)) else (none)) = some (r1, r2, r3, r4, r5, r6) := by first | (rw [hy176]; with_reducible exact H) | (have H2_ := (Option.bind_some _ _).symm.trans H; rw [hy176]; with_reducible exact H2_) | (have H2_ := (Option.bind_some _ _).symm.trans H; with_reducible exact H2_) | with_reducible exact H | (rw [hy176]; exact H) | exact H
    have Ny176 := jao hy176
    clear hy176
    by_cases c20 : y173.length + y176.length < 4398046511104
    ·rw [if_pos c20] at H
     have LMc20 := jao c20
     clear c20
     obtain ⟨y179, hy179⟩ : ∃ y_ : List (S60), y_ = (y173 ++ y176) := ⟨_, rfl⟩
     replace H : (some (y179, l0_1, wrap64 (a0_2 + 1), a0_3, a0_4, true)) = some (r1, r2, r3, r4, r5, r6) := by first | (rw [hy179]; with_reducible exact H) | (have H2_ := (Option.bind_some _ _).symm.trans H; rw [hy179]; with_reducible exact H2_) | (have H2_ := (Option.bind_some _ _).symm.trans H; with_reducible exact H2_) | with_reducible exact H | (rw [hy179]; exact H) | exact H
     have Ny179 := jao hy179
     clear hy179
     simp only [Option.some.injEq, Prod.mk.injEq] at H
     obtain ⟨rfl, rfl, rfl, rfl, rfl, rfl⟩ := H
     obtain ⟨Ao21, co21, eo21⟩ := Kd.R_slice HO0_0.out
     subst eo21
     obtain ⟨Ao22, co22, eo22⟩ := Kd.R_slice HO0_1.out
     subst eo22
     go_enter Try.func31, Try.ntmps31
     try go_wp2_with (first | ((with_reducible refine gate_dst (N := 2) rfl ?_); (try (refine gate_guard (by rfl) ?_; dsimp only)); refine box_event ?hg (N := 2) ?hd (cs := #[.slice Ao21 l0_0.length co21, .slice Ao22 l0_1.length co22, .int .i64 a0_2, .int .i64 a0_3, .int .i64 a0_4]) (t := 41) ?hr ?_; (case hd => rfl); (case hg => rfl); (case hr => first | (go_simp; done) | (go_simp; rfl)); intro jar hg w23 hbox hb; have n0_ := jao (Kd.R_below (by (with_reducible repeat (first | apply Kd.R_alloc | apply Kd.R_drewN | apply Kd.R_drew)); exact HO0_0.out) hb); have n1_ := jao (Kd.R_below (by (with_reducible repeat (first | apply Kd.R_alloc | apply Kd.R_drewN | apply Kd.R_drew)); exact HO0_1.out) hb); have n2_ := jao (Kept.below (S := (fun k_ => P0_0_ k_ ∨ P0_1_ k_)) (by repeat (first | (with_reducible first | exact HK.out | apply Kept.alloc | apply Kept.drewN | apply Kept.drew) | exact HK.out)) hb); have n3_ := jao (below_step (by repeat (first | (with_reducible first | exact HB.out | apply jaj | apply jah | apply jai) | exact HB.out)) hb); have n4_ := jao (hbox); have n5_ := jao ((by rw [hg]; exact (by first | exact HK.out.1 | exact (show Kept w _ (fun k_ => P0_0_ k_ ∨ P0_1_ k_) from by repeat (first | (with_reducible first | exact HK.out | apply Kept.alloc | apply Kept.drewN | apply Kept.drew) | exact HK.out)).1) : w.heap.size ≤ jar)); have n6_ := jao ((by rw [hg]; exact (below_size (by repeat (first | (with_reducible first | exact HB.out | apply jaj | apply jah | apply jai) | exact HB.out))) : w0.heap.size ≤ jar)); clear HO0_0; clear HO0_1; clear HK; clear HB; have HO0_0 := n0_; have HO0_1 := n1_; have HK := n2_; have HB := n3_; have jap := n4_; have jav := n5_; have jaw := n6_; clear n0_ n1_ n2_ n3_ n4_ n5_ n6_; clear hb hbox hg) | ((with_reducible refine gate_dst (N := 4) rfl ?_); (try (refine gate_guard (by rfl) ?_; dsimp only)); refine box_event ?hg (N := 4) ?hd (cs := #[.slice none 0 0, .slice none 0 0, .int .i64 0, .int .i64 0, .int .i64 0]) (t := 41) ?hr ?_; (case hd => rfl); (case hg => rfl); (case hr => first | (go_simp; done) | (go_simp; rfl)); intro jau hg w24 hbox hb; have n0_ := jao (Kd.R_below (by (with_reducible repeat (first | apply Kd.R_alloc | apply Kd.R_drewN | apply Kd.R_drew)); exact HO0_0.out) hb); have n1_ := jao (Kd.R_below (by (with_reducible repeat (first | apply Kd.R_alloc | apply Kd.R_drewN | apply Kd.R_drew)); exact HO0_1.out) hb); have n2_ := jao (blk_below (g := jar) (o := .cells #[.slice Ao21 l0_0.length co21, .slice Ao22 l0_1.length co22, .int .i64 a0_2, .int .i64 a0_3, .int .i64 a0_4] 41 (0, 0)) (by (with_reducible repeat (first | refine jad ?_ _ | refine jaf ?_ | refine jae ?_ _)); exact jap.out) hb); have n3_ := jao (Kept.below (S := (fun k_ => P0_0_ k_ ∨ P0_1_ k_)) (by repeat (first | (with_reducible first | exact HK.out | apply Kept.alloc | apply Kept.drewN | apply Kept.drew | refine Kept.setCell ?_ (.inr jav.out) _) | exact HK.out)) hb); have n4_ := jao (below_step (by repeat (first | (with_reducible first | exact HB.out | apply jaj | apply jah | apply jai | refine jag ?_ jaw.out) | exact HB.out)) hb); have n5_ := jao (hbox); have n6_ := jao ((by rw [hg]; exact (by first | exact HK.out.1 | exact (show Kept w _ (fun k_ => P0_0_ k_ ∨ P0_1_ k_) from by repeat (first | (with_reducible first | exact HK.out | apply Kept.alloc | apply Kept.drewN | apply Kept.drew | refine Kept.setCell ?_ (.inr jav.out) _) | exact HK.out)).1) : w.heap.size ≤ jau)); have n7_ := jao ((by rw [hg]; exact (below_size (by repeat (first | (with_reducible first | exact HB.out | apply jaj | apply jah | apply jai | refine jag ?_ jaw.out) | exact HB.out))) : w0.heap.size ≤ jau)); have n8_ := jao ((by rw [hg]; exact jam (blk_lt (g := jar) (o := .cells #[.slice Ao21 l0_0.length co21, .slice Ao22 l0_1.length co22, .int .i64 a0_2, .int .i64 a0_3, .int .i64 a0_4] 41 (0, 0)) (by (with_reducible repeat (first | refine jad ?_ _ | refine jaf ?_ | refine jae ?_ _)); exact jap.out)) : jar ≠ jau)); have n9_ := jao ((by rw [hg]; exact jan (blk_lt (g := jar) (o := .cells #[.slice Ao21 l0_0.length co21, .slice Ao22 l0_1.length co22, .int .i64 a0_2, .int .i64 a0_3, .int .i64 a0_4] 41 (0, 0)) (by (with_reducible repeat (first | refine jad ?_ _ | refine jaf ?_ | refine jae ?_ _)); exact jap.out)) : jau ≠ jar)); clear HO0_0; clear HO0_1; clear jap; clear HK; clear HB; have HO0_0 := n0_; have HO0_1 := n1_; have jap := n2_; have HK := n3_; have HB := n4_; have jas := n5_; have jax := n6_; have jay := n7_; have jbe := n8_; have jbd := n9_; clear n0_ n1_ n2_ n3_ n4_ n5_ n6_ n7_ n8_ n9_; clear hb hbox hg; have hnb25 := jbe.out; have hnc25 := jbd.out; have jcr : w24.cell? ⟨jar, 0, none⟩ = some (.slice Ao21 l0_0.length co21) := (jak jap.out 0).trans rfl; have jcs : w24.cell? ⟨jar, 1, none⟩ = some (.slice Ao22 l0_1.length co22) := (jak jap.out 1).trans rfl; have jct : w24.cell? ⟨jar, 2, none⟩ = some (.int .i64 a0_2) := (jak jap.out 2).trans rfl; have jcu : w24.cell? ⟨jar, 3, none⟩ = some (.int .i64 a0_3) := (jak jap.out 3).trans rfl; have jcv : w24.cell? ⟨jar, 4, none⟩ = some (.int .i64 a0_4) := (jak jap.out 4).trans rfl; have jcw := jal jap.out 0; have jcx := jal jap.out 1; have jcy := jal jap.out 2; have jcz := jal jap.out 3; have jda := jal jap.out 4) | ((with_reducible refine gate_callee (f := 34) rfl ?_); refine goesL_ (some 11) rfl rfl Try.func34 (by kernel_rfl) rfl #[.agg #[.slice Ao21 l0_0.length co21, .slice Ao22 l0_1.length co22, .int .i64 a0_2, .int .i64 a0_3, .int .i64 a0_4], .int .i64 a1] rfl (by (try simp only [List.map_toArray, List.map_cons, List.map_nil]); first | done | rfl) ?_; (with_reducible refine (stowageref08_Wires_At.calls _ _ l0_0 _ _ l0_1 a0_2 a0_3 a0_4 a1 t165 t166 t167 true _ ?side1 ?side2 ?side3 ?side4 A3.out).mono ?_); (case side1 => repeat (first | exact (Kd.R_reads' HO0_0.out).2.2 | (with_reducible refine Kd.C_alloc ?_ _) | (with_reducible refine Kd.C_drewN ?_ _) | (with_reducible refine Kd.C_drew ?_))); (case side2 => exact (Kd.R_reads' HO0_0.out).2.1); (case side3 => repeat (first | exact (Kd.R_reads' HO0_1.out).2.2 | (with_reducible refine Kd.C_alloc ?_ _) | (with_reducible refine Kd.C_drewN ?_ _) | (with_reducible refine Kd.C_drew ?_))); (case side4 => exact (Kd.R_reads' HO0_1.out).2.1); rintro e w27 ⟨rfl, hb⟩; refine ⟨_, rfl, ?_⟩; have n0_ := jao (Kd.R_below (by (with_reducible repeat (first | apply Kd.R_alloc | apply Kd.R_drewN | apply Kd.R_drew)); exact HO0_0.out) hb); have n1_ := jao (Kd.R_below (by (with_reducible repeat (first | apply Kd.R_alloc | apply Kd.R_drewN | apply Kd.R_drew)); exact HO0_1.out) hb); have n2_ := jao (blk_below (g := jar) (o := .cells #[.slice Ao21 l0_0.length co21, .slice Ao22 l0_1.length co22, .int .i64 a0_2, .int .i64 a0_3, .int .i64 a0_4] 41 (0, 0)) (by (with_reducible repeat (first | refine jad ?_ _ | refine jaf ?_ | refine jae ?_ _)); exact jap.out) hb); have n3_ := jao (blk_below (g := jau) (o := .cells #[.slice none 0 0, .slice none 0 0, .int .i64 0, .int .i64 0, .int .i64 0] 41 (0, 0)) (by (with_reducible repeat (first | refine jad ?_ _ | refine jaf ?_ | refine jae ?_ _)); exact jas.out) hb); have n4_ := jao (Kept.below (S := (fun k_ => P0_0_ k_ ∨ P0_1_ k_)) (by repeat (first | (with_reducible first | exact HK.out | apply Kept.alloc | apply Kept.drewN | apply Kept.drew | refine Kept.setCell ?_ (.inr jav.out) _ | refine Kept.setCell ?_ (.inr jax.out) _) | exact HK.out)) hb); have n5_ := jao (below_step (by repeat (first | (with_reducible first | exact HB.out | apply jaj | apply jah | apply jai | refine jag ?_ jaw.out | refine jag ?_ jay.out) | exact HB.out)) hb); clear HO0_0; clear HO0_1; clear jap; clear jas; clear HK; clear HB; have HO0_0 := n0_; have HO0_1 := n1_; have jap := n2_; have jas := n3_; have HK := n4_; have HB := n5_; clear n0_ n1_ n2_ n3_ n4_ n5_; (try clear hb); (try clear hk); (try clear hi)) | ((with_reducible refine gate_dst (N := 6) rfl ?_); (try (refine gate_guard (by rfl) ?_; dsimp only)); refine box_event ?hg (N := 6) ?hd (cs := #[.int .i64 0, .int .i64 0, .string (⟨#[]⟩ : ByteArray)]) (t := 60) ?hr ?_; (case hd => rfl); (case hg => rfl); (case hr => first | (go_simp; done) | (go_simp; rfl)); intro jaq hg w28 hbox hb; have n0_ := jao (Kd.R_below (Kd.R_elderB (by (with_reducible repeat (first | apply Kd.R_alloc | apply Kd.R_drewN | apply Kd.R_drew)); exact HO0_0.out) jaq (Nat.le_of_eq hg.symm)) hb); have n1_ := jao (Kd.R_below (by (with_reducible repeat (first | apply Kd.R_alloc | apply Kd.R_drewN | apply Kd.R_drew)); exact HO0_1.out) hb); have n2_ := jao (blk_below (g := jar) (o := .cells #[.slice Ao21 l0_0.length co21, .slice Ao22 l0_1.length co22, .int .i64 a0_2, .int .i64 a0_3, .int .i64 a0_4] 41 (0, 0)) (by (with_reducible repeat (first | refine jad ?_ _ | refine jaf ?_ | refine jae ?_ _)); exact jap.out) hb); have n3_ := jao (blk_below (g := jau) (o := .cells #[.slice none 0 0, .slice none 0 0, .int .i64 0, .int .i64 0, .int .i64 0] 41 (0, 0)) (by (with_reducible repeat (first | refine jad ?_ _ | refine jaf ?_ | refine jae ?_ _)); exact jas.out) hb); have n4_ := jao (Kept.below (S := (fun k_ => P0_0_ k_ ∨ P0_1_ k_)) (by repeat (first | (with_reducible first | exact HK.out | apply Kept.alloc | apply Kept.drewN | apply Kept.drew | refine Kept.setCell ?_ (.inr jav.out) _ | refine Kept.setCell ?_ (.inr jax.out) _) | exact HK.out)) hb); have n5_ := jao (below_step (by repeat (first | (with_reducible first | exact HB.out | apply jaj | apply jah | apply jai | refine jag ?_ jaw.out | refine jag ?_ jay.out) | exact HB.out)) hb); have n6_ := jao (hbox); have n7_ := jao ((by rw [hg]; exact (by first | exact HK.out.1 | exact (show Kept w _ (fun k_ => P0_0_ k_ ∨ P0_1_ k_) from by repeat (first | (with_reducible first | exact HK.out | apply Kept.alloc | apply Kept.drewN | apply Kept.drew | refine Kept.setCell ?_ (.inr jav.out) _ | refine Kept.setCell ?_ (.inr jax.out) _) | exact HK.out)).1) : w.heap.size ≤ jaq)); have n8_ := jao ((by rw [hg]; exact (below_size (by repeat (first | (with_reducible first | exact HB.out | apply jaj | apply jah | apply jai | refine jag ?_ jaw.out | refine jag ?_ jay.out) | exact HB.out))) : w0.heap.size ≤ jaq)); have n9_ := jao ((by rw [hg]; exact jam (blk_lt (g := jar) (o := .cells #[.slice Ao21 l0_0.length co21, .slice Ao22 l0_1.length co22, .int .i64 a0_2, .int .i64 a0_3, .int .i64 a0_4] 41 (0, 0)) (by (with_reducible repeat (first | refine jad ?_ _ | refine jaf ?_ | refine jae ?_ _)); exact jap.out)) : jar ≠ jaq)); have n10_ := jao ((by rw [hg]; exact jan (blk_lt (g := jar) (o := .cells #[.slice Ao21 l0_0.length co21, .slice Ao22 l0_1.length co22, .int .i64 a0_2, .int .i64 a0_3, .int .i64 a0_4] 41 (0, 0)) (by (with_reducible repeat (first | refine jad ?_ _ | refine jaf ?_ | refine jae ?_ _)); exact jap.out)) : jaq ≠ jar)); have n11_ := jao ((by rw [hg]; exact jam (blk_lt (g := jau) (o := .cells #[.slice none 0 0, .slice none 0 0, .int .i64 0, .int .i64 0, .int .i64 0] 41 (0, 0)) (by (with_reducible repeat (first | refine jad ?_ _ | refine jaf ?_ | refine jae ?_ _)); exact jas.out)) : jau ≠ jaq)); have n12_ := jao ((by rw [hg]; exact jan (blk_lt (g := jau) (o := .cells #[.slice none 0 0, .slice none 0 0, .int .i64 0, .int .i64 0, .int .i64 0] 41 (0, 0)) (by (with_reducible repeat (first | refine jad ?_ _ | refine jaf ?_ | refine jae ?_ _)); exact jas.out)) : jaq ≠ jau)); clear HO0_0; clear HO0_1; clear jap; clear jas; clear HK; clear HB; have HO0_0 := n0_; have HO0_1 := n1_; have jap := n2_; have jas := n3_; have HK := n4_; have HB := n5_; have jat := n6_; have jaz := n7_; have jba := n8_; have jbc := n9_; have jbf := n10_; have jbb := n11_; have jbg := n12_; clear n0_ n1_ n2_ n3_ n4_ n5_ n6_ n7_ n8_ n9_ n10_ n11_ n12_; clear hb hbox hg; have hnb29 := jbf.out; have hnc29 := jbc.out; have hnb30 := jbg.out; have hnc30 := jbb.out; have jdb : w28.cell? ⟨jaq, 0, none⟩ = some (.int .i64 0) := (jak jat.out 0).trans rfl; have jdc : w28.cell? ⟨jaq, 1, none⟩ = some (.int .i64 0) := (jak jat.out 1).trans rfl; have jdd : w28.cell? ⟨jaq, 2, none⟩ = some (.string (⟨#[]⟩ : ByteArray)) := (jak jat.out 2).trans rfl; have jde := jal jat.out 0; have jdf := jal jat.out 1; have jdg := jal jat.out 2; have jdh : w28.cell? ⟨jar, 0, none⟩ = some (.slice Ao21 l0_0.length co21) := (jak jap.out 0).trans rfl; have jdi : w28.cell? ⟨jar, 1, none⟩ = some (.slice Ao22 l0_1.length co22) := (jak jap.out 1).trans rfl; have jdj : w28.cell? ⟨jar, 2, none⟩ = some (.int .i64 a0_2) := (jak jap.out 2).trans rfl; have jdk : w28.cell? ⟨jar, 3, none⟩ = some (.int .i64 a0_3) := (jak jap.out 3).trans rfl; have jdl : w28.cell? ⟨jar, 4, none⟩ = some (.int .i64 a0_4) := (jak jap.out 4).trans rfl; have jdm := jal jap.out 0; have jdn := jal jap.out 1; have jdo := jal jap.out 2; have jdp := jal jap.out 3; have jdq := jal jap.out 4))
     have n0_ : Aside0 (Kd.R k60 60 (((w28.setCell ⟨jaq, 0, none⟩ (.int .i64 t165)).setCell ⟨jaq, 1, none⟩ (.int .i64 t166)).setCell ⟨jaq, 2, none⟩ (.string t167)) w0.heap.size (fun k_ => ((P0_0_ k_ ∨ P0_1_ k_) ∨ w.heap.size ≤ k_) ∧ k_ ≠ jaq) (.slice Ao21 l0_0.length co21) l0_0) := ⟨by (with_reducible repeat (first | apply Kd.R_alloc | apply Kd.R_drewN | apply Kd.R_drew)); exact Kd.R_mono (Kd.R_far (p := ⟨jaq, 2, none⟩) (Kd.R_far (p := ⟨jaq, 1, none⟩) (Kd.R_far (p := ⟨jaq, 0, none⟩) (Kd.R_mono HO0_0.out (fun k_ hk => (⟨hk, hk.2⟩ : _ ∧ k_ ≠ jaq))) (fun _ hk => hk.2) (.int .i64 t165)) (fun _ hk => hk.2) (.int .i64 t166)) (fun _ hk => hk.2) (.string t167)) (fun _ hk => ⟨hk.1.1, hk.1.2⟩)⟩
     have n1_ : Aside0 (Kd.R k71 71 (((w28.setCell ⟨jaq, 0, none⟩ (.int .i64 t165)).setCell ⟨jaq, 1, none⟩ (.int .i64 t166)).setCell ⟨jaq, 2, none⟩ (.string t167)) w0.heap.size (fun k_ => ((P0_0_ k_ ∨ P0_1_ k_) ∨ w.heap.size ≤ k_)) (.slice Ao22 l0_1.length co22) l0_1) := ⟨by (with_reducible repeat (first | apply Kd.R_alloc | apply Kd.R_drewN | apply Kd.R_drew)); exact Kd.R_mono (Kd.R_far (p := ⟨jaq, 2, none⟩) (Kd.R_far (p := ⟨jaq, 1, none⟩) (Kd.R_far (p := ⟨jaq, 0, none⟩) (Kd.R_types HO0_1.out jat.out (by decide)) (fun _ hk => hk.2) (.int .i64 t165)) (fun _ hk => hk.2) (.int .i64 t166)) (fun _ hk => hk.2) (.string t167)) (fun _ hk => hk.1)⟩
     have n2_ : Aside0 ((((w28.setCell ⟨jaq, 0, none⟩ (.int .i64 t165)).setCell ⟨jaq, 1, none⟩ (.int .i64 t166)).setCell ⟨jaq, 2, none⟩ (.string t167)).heap[jar]? = some (.cells #[.slice Ao21 l0_0.length co21, .slice Ao22 l0_1.length co22, .int .i64 a0_2, .int .i64 a0_3, .int .i64 a0_4] 41 (0, 0))) := ⟨by (with_reducible repeat (first | refine jad ?_ _ | refine jaf ?_ | refine jae ?_ _)); refine blk_far ?_ jbc.out _; (with_reducible repeat (first | refine jad ?_ _ | refine jaf ?_ | refine jae ?_ _)); refine blk_far ?_ jbc.out _; (with_reducible repeat (first | refine jad ?_ _ | refine jaf ?_ | refine jae ?_ _)); refine blk_far ?_ jbc.out _; (with_reducible repeat (first | refine jad ?_ _ | refine jaf ?_ | refine jae ?_ _)); exact jap.out⟩
     have n3_ : Aside0 ((((w28.setCell ⟨jaq, 0, none⟩ (.int .i64 t165)).setCell ⟨jaq, 1, none⟩ (.int .i64 t166)).setCell ⟨jaq, 2, none⟩ (.string t167)).heap[jau]? = some (.cells #[.slice none 0 0, .slice none 0 0, .int .i64 0, .int .i64 0, .int .i64 0] 41 (0, 0))) := ⟨by (with_reducible repeat (first | refine jad ?_ _ | refine jaf ?_ | refine jae ?_ _)); refine blk_far ?_ jbb.out _; (with_reducible repeat (first | refine jad ?_ _ | refine jaf ?_ | refine jae ?_ _)); refine blk_far ?_ jbb.out _; (with_reducible repeat (first | refine jad ?_ _ | refine jaf ?_ | refine jae ?_ _)); refine blk_far ?_ jbb.out _; (with_reducible repeat (first | refine jad ?_ _ | refine jaf ?_ | refine jae ?_ _)); exact jas.out⟩
     have n4_ : Aside0 ((((w28.setCell ⟨jaq, 0, none⟩ (.int .i64 t165)).setCell ⟨jaq, 1, none⟩ (.int .i64 t166)).setCell ⟨jaq, 2, none⟩ (.string t167)).heap[jaq]? = some (.cells #[.int .i64 t165, .int .i64 t166, .string t167] 60 (0, 0))) := ⟨by (with_reducible repeat (first | refine jad ?_ _ | refine jaf ?_ | refine jae ?_ _)); refine blk_put (cs := #[.int .i64 t165, .int .i64 t166, .string (⟨#[]⟩ : ByteArray)]) ?_ 2 _ rfl; (with_reducible repeat (first | refine jad ?_ _ | refine jaf ?_ | refine jae ?_ _)); refine blk_put (cs := #[.int .i64 t165, .int .i64 0, .string (⟨#[]⟩ : ByteArray)]) ?_ 1 _ rfl; (with_reducible repeat (first | refine jad ?_ _ | refine jaf ?_ | refine jae ?_ _)); refine blk_put (cs := #[.int .i64 0, .int .i64 0, .string (⟨#[]⟩ : ByteArray)]) ?_ 0 _ rfl; (with_reducible repeat (first | refine jad ?_ _ | refine jaf ?_ | refine jae ?_ _)); exact jat.out⟩
     have n5_ : Aside0 (Kept w (((w28.setCell ⟨jaq, 0, none⟩ (.int .i64 t165)).setCell ⟨jaq, 1, none⟩ (.int .i64 t166)).setCell ⟨jaq, 2, none⟩ (.string t167)) (fun k_ => P0_0_ k_ ∨ P0_1_ k_)) := ⟨by repeat (first | (with_reducible first | exact HK.out | apply Kept.alloc | apply Kept.drewN | apply Kept.drew | refine Kept.setCell ?_ (.inr jav.out) _ | refine Kept.setCell ?_ (.inr jax.out) _ | refine Kept.setCell ?_ (.inr jaz.out) _) | exact HK.out)⟩
     have n6_ : Aside0 (Below w0.heap.size w0 (((w28.setCell ⟨jaq, 0, none⟩ (.int .i64 t165)).setCell ⟨jaq, 1, none⟩ (.int .i64 t166)).setCell ⟨jaq, 2, none⟩ (.string t167))) := ⟨by repeat (first | (with_reducible first | exact HB.out | apply jaj | apply jah | apply jai | refine jag ?_ jaw.out | refine jag ?_ jay.out | refine jag ?_ jba.out) | exact HB.out)⟩
     (try clear HO0_0)
     (try clear HO0_1)
     (try clear jap)
     (try clear jas)
     (try clear jat)
     (try clear HK)
     (try clear HB)
     generalize (((w28.setCell ⟨jaq, 0, none⟩ (.int .i64 t165)).setCell ⟨jaq, 1, none⟩ (.int .i64 t166)).setCell ⟨jaq, 2, none⟩ (.string t167)) = w33 at n0_ n1_ n2_ n3_ n4_ n5_ n6_ ⊢
     have HO0_0 := n0_
     have HO0_1 := n1_
     have jap := n2_
     have jas := n3_
     have jat := n4_
     have HK := n5_
     have HB := n6_
     clear n0_ n1_ n2_ n3_ n4_ n5_ n6_
     have n0_ := jao (Kd.R_drew HO0_0.out)
     have n1_ := jao (Kd.R_drew HO0_1.out)
     have n2_ := jao (jaf jap.out)
     have n3_ := jao (jaf jas.out)
     have n4_ := jao (jaf jat.out)
     have n5_ := jao (Kept.drew HK.out)
     have n6_ := jao (jai HB.out)
     clear HO0_0
     clear HO0_1
     clear jap
     clear jas
     clear jat
     clear HK
     clear HB
     have HO0_0 := n0_
     have HO0_1 := n1_
     have jap := n2_
     have jas := n3_
     have jat := n4_
     have HK := n5_
     have HB := n6_
     clear n0_ n1_ n2_ n3_ n4_ n5_ n6_
     refine start_ (n := 9) (S := fun w' => w'.cell? ⟨jar, 0, none⟩ = some (.slice Ao21 l0_0.length co21) ∧ w'.cell? ⟨jar, 1, none⟩ = some (.slice Ao22 l0_1.length co22) ∧ w'.cell? ⟨jar, 2, none⟩ = some (.int .i64 a0_2) ∧ w'.cell? ⟨jar, 3, none⟩ = some (.int .i64 a0_3) ∧ w'.cell? ⟨jar, 4, none⟩ = some (.int .i64 a0_4) ∧ w'.cell? ⟨jaq, 0, none⟩ = some (.int .i64 t165) ∧ w'.cell? ⟨jaq, 1, none⟩ = some (.int .i64 t166) ∧ w'.cell? ⟨jaq, 2, none⟩ = some (.string t167)) (ds := [8]) jsq0 (by kernel_rfl) rfl rfl ⟨(jak jap.out 0).trans rfl, (jak jap.out 1).trans rfl, (jak jap.out 2).trans rfl, (jak jap.out 3).trans rfl, (jak jap.out 4).trans rfl, (jak jat.out 0).trans rfl, (jak jat.out 1).trans rfl, (jak jat.out 2).trans rfl⟩ (fun hHeld => ?_); refine with_tabW tab4 bits4 (fun HT_ HW_ => ?_)
     generalize w33.drew = w34 at HO0_0 HO0_1 jap jas jat HK HB hHeld ⊢
     refine pure_ (i := 1) (N := some 24) (v := ?_) (a' := ?_) jsq1 rfl rfl (any_of HT_.out (by kernel_rfl)) (fun _ _ _ h => h) (Or.inl ⟨by rfl, ?_⟩) ?_ ?_
     rotate_left
     ·intro w'
      go_simp
      with_reducible rfl
     rotate_left
     ·simp only [Act.put, jaa, jab, jac, i64_w, i32_w]
      rfl
     refine take_ (i := 2) (N := some 25) (v := ?_) (a' := ?_) jsq2 rfl rfl (take_ofW HT_.out HW_.out (by kernel_rfl)) (fun _ _ _ h => h) (Or.inl ⟨by rfl, ?_⟩) hHeld ?_ ?_
     rotate_left
     ·rintro w' ⟨s0, s1, s2, s3, s4, s5, s6, s7⟩
      go_simp
      with_reducible rfl
     rotate_left
     ·simp only [Act.put, jaa, jab, jac, i64_w, i32_w]
      rfl
     refine take_ (i := 4) (N := some 27) (v := ?_) (a' := ?_) jsq3 rfl rfl (take_ofW HT_.out HW_.out (by kernel_rfl)) (fun _ _ _ h => h) (Or.inl ⟨by rfl, ?_⟩) hHeld ?_ ?_
     rotate_left
     ·rintro w' ⟨s0, s1, s2, s3, s4, s5, s6, s7⟩
      go_simp
      with_reducible rfl
     rotate_left
     ·simp only [Act.put, jaa, jab, jac, i64_w, i32_w]
      rfl
     refine join_ (σ := Value × Value × Value) 3 #[true, true, true, true, true, true, false, false, false] (fun s_ => [(23, s_.1), (26, s_.2.1), (28, s_.2.2)]) (fun s_ w' => (w'.cell? ⟨jar, 0, none⟩ = some (.slice Ao21 l0_0.length co21) ∧ w'.cell? ⟨jar, 1, none⟩ = some (.slice Ao22 l0_1.length co22) ∧ w'.cell? ⟨jar, 2, none⟩ = some (.int .i64 a0_2) ∧ w'.cell? ⟨jar, 3, none⟩ = some (.int .i64 a0_3) ∧ w'.cell? ⟨jar, 4, none⟩ = some (.int .i64 a0_4) ∧ w'.cell? ⟨jaq, 0, none⟩ = some (.int .i64 t165) ∧ w'.cell? ⟨jaq, 1, none⟩ = some (.int .i64 t166) ∧ w'.cell? ⟨jaq, 2, none⟩ = some (.string t167)) ∧ (Kd.R k60 60 w' w0.heap.size (fun k_ => ((P0_0_ k_ ∨ P0_1_ k_) ∨ w.heap.size ≤ k_) ∧ some k_ ≠ (s_.2.1 : Value).ownBlock ∧ some k_ ≠ (s_.2.2 : Value).ownBlock ∧ k_ ≠ jaq) (.slice Ao21 l0_0.length co21) l0_0) ∧ (Kd.R k71 71 w' w0.heap.size (fun k_ => ((P0_0_ k_ ∨ P0_1_ k_) ∨ w.heap.size ≤ k_)) (.slice Ao22 l0_1.length co22) l0_1) ∧ (Kd.R k60 60 w' w0.heap.size (fun k_ => ((P0_0_ k_ ∨ P0_1_ k_) ∨ w.heap.size ≤ k_) ∧ some k_ ≠ (.slice Ao21 l0_0.length co21 : Value).ownBlock ∧ some k_ ≠ (s_.2.2 : Value).ownBlock ∧ k_ ≠ jaq) s_.2.1 y173) ∧ (Kd.R k60 60 w' w0.heap.size (fun k_ => ((P0_0_ k_ ∨ P0_1_ k_) ∨ w.heap.size ≤ k_) ∧ some k_ ≠ (.slice Ao21 l0_0.length co21 : Value).ownBlock ∧ some k_ ≠ (s_.2.1 : Value).ownBlock ∧ k_ ≠ jaq) s_.2.2 y176) ∧ (w'.heap[jar]? = some (.cells #[.slice Ao21 l0_0.length co21, .slice Ao22 l0_1.length co22, .int .i64 a0_2, .int .i64 a0_3, .int .i64 a0_4] 41 (0, 0))) ∧ (w'.heap[jau]? = some (.cells #[.slice none 0 0, .slice none 0 0, .int .i64 0, .int .i64 0, .int .i64 0] 41 (0, 0))) ∧ (w'.heap[jaq]? = some (.cells #[.int .i64 t165, .int .i64 t166, .string t167] 60 (0, 0))) ∧ (Kept w w' (fun k_ => P0_0_ k_ ∨ P0_1_ k_)) ∧ (Below w0.heap.size w0 w')) ?_ ?_
     rotate_left
     ·intro hCont
      refine two_ (i := 0) (j := 5) (Ni := some 23) (Nj := some 28) jsq4 jsq5 rfl rfl rfl rfl (two_of HT_.out (by kernel_rfl)) (by decide) (by decide) (fun K hK => ?_) (fun K hK => ?_)
      ·skip
       refine Kd.R_lit_step k60 _ 60 ?hg (N := 23) ?hd (xs := ([] : List (S60))) (inner := []) (ok := fun _ => True) (okp := fun _ => True) ?hr ?hp (fun _ hk => hk) trivial (Below.refl _ _) (Nat.le_refl _) (by simp) ?_; (case hd => rfl); (case hg => rfl); (case hr => first | (go_simp; done) | (go_simp; rfl)); (case hp => exact (Reps.none _ _))
       intro v171 w35 ho36 hb hg_ hnew_
       clear hg_ hnew_
       (first | rw [← Ny170.out] at ho36 | (simp only [Int.reduceToNat] at ho36; rw [← Ny170.out] at ho36))
       have n0_ := jao (Kd.R_elder' (by (with_reducible repeat (first | apply Kd.R_alloc | apply Kd.R_drewN | apply Kd.R_drew)); exact HO0_0.out) (Kd.R_base ho36) hb)
       have n1_ := jao (Kd.R_below (by (with_reducible repeat (first | apply Kd.R_alloc | apply Kd.R_drewN | apply Kd.R_drew)); exact HO0_1.out) hb)
       have n2_ := jao (Kd.R_lower (Kd.R_newB (Kd.R_new' (Kd.R_newM (M := fun k_ => ((P0_0_ k_ ∨ P0_1_ k_) ∨ w.heap.size ≤ k_)) ho36 (by first | exact HK.out.1 | exact (show Kept w _ (fun k_ => P0_0_ k_ ∨ P0_1_ k_) from by repeat (first | (with_reducible first | exact HK.out | apply Kept.alloc | apply Kept.drewN | apply Kept.drew | refine Kept.setCell ?_ (.inr jav.out) _ | refine Kept.setCell ?_ (.inr jax.out) _ | refine Kept.setCell ?_ (.inr jaz.out) _) | exact HK.out)).1) (fun k_ h_ => .inr h_)) (Kd.R_lt (by (with_reducible repeat (first | apply Kd.R_alloc | apply Kd.R_drewN | apply Kd.R_drew)); exact HO0_0.out))) (g := jaq) (o := .cells #[.int .i64 t165, .int .i64 t166, .string t167] 60 (0, 0)) (by (with_reducible repeat (first | refine jad ?_ _ | refine jaf ?_ | refine jae ?_ _)); exact jat.out)) (below_size (by repeat (first | (with_reducible first | exact HB.out | apply jaj | apply jah | apply jai | refine jag ?_ jaw.out | refine jag ?_ jay.out | refine jag ?_ jba.out) | exact HB.out))))
       have n3_ := jao (blk_below (g := jar) (o := .cells #[.slice Ao21 l0_0.length co21, .slice Ao22 l0_1.length co22, .int .i64 a0_2, .int .i64 a0_3, .int .i64 a0_4] 41 (0, 0)) (by (with_reducible repeat (first | refine jad ?_ _ | refine jaf ?_ | refine jae ?_ _)); exact jap.out) hb)
       have n4_ := jao (blk_below (g := jau) (o := .cells #[.slice none 0 0, .slice none 0 0, .int .i64 0, .int .i64 0, .int .i64 0] 41 (0, 0)) (by (with_reducible repeat (first | refine jad ?_ _ | refine jaf ?_ | refine jae ?_ _)); exact jas.out) hb)
       have n5_ := jao (blk_below (g := jaq) (o := .cells #[.int .i64 t165, .int .i64 t166, .string t167] 60 (0, 0)) (by (with_reducible repeat (first | refine jad ?_ _ | refine jaf ?_ | refine jae ?_ _)); exact jat.out) hb)
       have n6_ := jao (Kept.below (S := (fun k_ => P0_0_ k_ ∨ P0_1_ k_)) (by repeat (first | (with_reducible first | exact HK.out | apply Kept.alloc | apply Kept.drewN | apply Kept.drew | refine Kept.setCell ?_ (.inr jav.out) _ | refine Kept.setCell ?_ (.inr jax.out) _ | refine Kept.setCell ?_ (.inr jaz.out) _) | exact HK.out)) hb)
       have n7_ := jao (below_step (by repeat (first | (with_reducible first | exact HB.out | apply jaj | apply jah | apply jai | refine jag ?_ jaw.out | refine jag ?_ jay.out | refine jag ?_ jba.out) | exact HB.out)) hb)
       clear HO0_0
       clear HO0_1
       clear jap
       clear jas
       clear jat
       clear HK
       clear HB
       have HO0_0 := n0_
       have HO0_1 := n1_
       have HO172 := n2_
       have jap := n3_
       have jas := n4_
       have jat := n5_
       have HK := n6_
       have HB := n7_
       clear n0_ n1_ n2_ n3_ n4_ n5_ n6_ n7_
       clear hb ho36
       refine hK.out _ _ ⟨(jak jap.out 0).trans rfl, (jak jap.out 1).trans rfl, (jak jap.out 2).trans rfl, (jak jap.out 3).trans rfl, (jak jap.out 4).trans rfl, (jak jat.out 0).trans rfl, (jak jat.out 1).trans rfl, (jak jat.out 2).trans rfl⟩ (fun hHeld => ?_)
       clear hK K
       refine norm_ (a' := ?_) ?_ ?_
       rotate_left
       ·show Act.put _ (some 23) _ = _
        simp only [Act.put, jaa, jab, jac, i64_w, i32_w]
        rfl
       refine two_ (i := 3) (j := 5) (Ni := some 26) (Nj := some 28) #[true, true, true, true, true, false, false, false, false] #[true, true, true, false, true, true, false, false, false] rfl rfl rfl rfl (two_of HT_.out (by kernel_rfl)) (by decide) (by decide) (fun K hK => ?_) (fun K hK => ?_)
       ·skip
        refine Kd.R_append_rows_step k60 (w0 := w0) w0.heap.size (by rfl) (.tmp 23) (.tmp 25) 38 60 (.agg #[(.int .i64 0), (.int .i64 0), (.string ⟨#[]⟩)]) 32 rfl Try.underlying38 info60 rfl (by decide) (by omega) v171 y170 l0_0 _ _ _ (fun k_ => ((P0_0_ k_ ∨ P0_1_ k_) ∨ w.heap.size ≤ k_) ∧ some k_ ≠ (.slice Ao21 l0_0.length co21 : Value).ownBlock ∧ k_ ≠ jaq) (fun _ => False) rfl rfl ?aO ?aR (fun _ _ h => h) (fun _ h => h.elim) ?aF ?aB ?aS ?aL ?_
        (case aR => repeat (first | exact (Kd.R_reads' HO0_0.out).2.2 | (with_reducible refine Kd.C_alloc ?_ _) | (with_reducible refine Kd.C_drewN ?_ _) | (with_reducible refine Kd.C_drew ?_)))
        (case aB => exact (by repeat (first | (with_reducible first | exact HB.out | apply jaj | apply jah | apply jai | refine jag ?_ jaw.out | refine jag ?_ jay.out | refine jag ?_ jba.out) | exact HB.out)))
        (case aF => exact (fun k_ hk => ⟨(.inr (Nat.le_trans (by first | exact HK.out.1 | exact (show Kept w _ (fun k_ => P0_0_ k_ ∨ P0_1_ k_) from by repeat (first | (with_reducible first | exact HK.out | apply Kept.alloc | apply Kept.drewN | apply Kept.drew | refine Kept.setCell ?_ (.inr jav.out) _ | refine Kept.setCell ?_ (.inr jax.out) _ | refine Kept.setCell ?_ (.inr jaz.out) _) | exact HK.out)).1) hk)), Kd.fresh' (Kd.R_lt (by (with_reducible repeat (first | apply Kd.R_alloc | apply Kd.R_drewN | apply Kd.R_drew)); exact HO0_0.out)) k_ hk, Kd.freshB (g := jaq) (o := .cells #[.int .i64 t165, .int .i64 t166, .string t167] 60 (0, 0)) (by (with_reducible repeat (first | refine jad ?_ _ | refine jaf ?_ | refine jae ?_ _)); exact jat.out) k_ hk⟩))
        (case aO => exact (by (with_reducible repeat (first | apply Kd.R_alloc | apply Kd.R_drewN | apply Kd.R_drew)); exact Kd.R_mono HO172.out (fun _ hk => ⟨hk.1.1.1, ⟨hk.1.2, hk.2⟩⟩)))
        (case aS => exact (below_size (by repeat (first | (with_reducible first | exact HB.out | apply jaj | apply jah | apply jai | refine jag ?_ jaw.out | refine jag ?_ jay.out | refine jag ?_ jba.out) | exact HB.out))))
        (case aL => have := LMc19.out; omega)
        intro v174 w37 ho hb hg hat
        rw [← Ny173.out] at ho
        have n0_ := jao (Kd.R_after (ok := (fun k_ => ((P0_0_ k_ ∨ P0_1_ k_) ∨ w.heap.size ≤ k_) ∧ k_ ≠ jaq)) (by (with_reducible repeat (first | apply Kd.R_alloc | apply Kd.R_drewN | apply Kd.R_drew)); exact HO0_0.out) hg hat)
        have n1_ := jao (Kd.R_over' (by (with_reducible repeat (first | apply Kd.R_alloc | apply Kd.R_drewN | apply Kd.R_drew)); exact HO0_1.out) (Kd.R_typed (by (with_reducible repeat (first | apply Kd.R_alloc | apply Kd.R_drewN | apply Kd.R_drew)); exact HO172.out)) (by decide) hg)
        have n2_ := jao (blk_grown (g := jar) (o := .cells #[.slice Ao21 l0_0.length co21, .slice Ao22 l0_1.length co22, .int .i64 a0_2, .int .i64 a0_3, .int .i64 a0_4] 41 (0, 0)) (by (with_reducible repeat (first | refine jad ?_ _ | refine jaf ?_ | refine jae ?_ _)); exact jap.out) hg (Kd.R_ne HO172.out jap.out (by decide)))
        have n3_ := jao (blk_grown (g := jau) (o := .cells #[.slice none 0 0, .slice none 0 0, .int .i64 0, .int .i64 0, .int .i64 0] 41 (0, 0)) (by (with_reducible repeat (first | refine jad ?_ _ | refine jaf ?_ | refine jae ?_ _)); exact jas.out) hg (Kd.R_ne HO172.out jas.out (by decide)))
        have n4_ := jao (blk_grown (g := jaq) (o := .cells #[.int .i64 t165, .int .i64 t166, .string t167] 60 (0, 0)) (by (with_reducible repeat (first | refine jad ?_ _ | refine jaf ?_ | refine jae ?_ _)); exact jat.out) hg (Kd.R_away HO172.out (fun _ hk => hk.2)))
        have n5_ := jao (hb)
        have n6_ := jao (Kept.of_grown (S := (fun k_ => P0_0_ k_ ∨ P0_1_ k_)) hg (by repeat (first | (with_reducible first | exact HK.out | apply Kept.alloc | apply Kept.drewN | apply Kept.drew | refine Kept.setCell ?_ (.inr jav.out) _ | refine Kept.setCell ?_ (.inr jax.out) _ | refine Kept.setCell ?_ (.inr jaz.out) _) | exact HK.out)) (fun k_ e_ => (HO172.out.1 k_ e_).1.1.1))
        have n7_ := jao (ho)
        clear HO0_0
        clear HO0_1
        clear jap
        clear jas
        clear jat
        clear HB
        clear HK
        clear HO172
        have HO0_0 := n0_
        have HO0_1 := n1_
        have jap := n2_
        have jas := n3_
        have jat := n4_
        have HB := n5_
        have HK := n6_
        have HO175 := n7_
        clear n0_ n1_ n2_ n3_ n4_ n5_ n6_ n7_
        clear ho hb hg hat
        refine hK.out _ _ ⟨(jak jap.out 0).trans rfl, (jak jap.out 1).trans rfl, (jak jap.out 2).trans rfl, (jak jap.out 3).trans rfl, (jak jap.out 4).trans rfl, (jak jat.out 0).trans rfl, (jak jat.out 1).trans rfl, (jak jat.out 2).trans rfl⟩ (fun hHeld => ?_)
        clear hK K
        refine norm_ (a' := ?_) ?_ ?_
        rotate_left
        ·show Act.put _ (some 26) _ = _
         simp only [Act.put, jaa, jab, jac, i64_w, i32_w]
         rfl
        refine one_ (i := 5) (N := some 28) #[true, true, true, true, true, true, false, false, false] rfl rfl (one_of HT_.out (by kernel_rfl)) (by decide) (fun K hK => ?_)
        refine Kd.R_lit_step k60 _ 60 ?hg (N := 28) ?hd (xs := ([(⟨t165, t166, t167⟩ : S60)] : List (S60))) (inner := [.int .i64 t165, .int .i64 t166, .string t167]) (ok := fun _ => True) (okp := fun _ => True) ?hr ?hp (fun _ hk => hk) trivial (Below.refl _ _) (Nat.le_refl _) (by simp) ?_; (case hd => rfl); (case hg => rfl); (case hr => first | (go_simp; done) | (go_simp; rfl)); (case hp => exact (Reps.c3 (show Kd.M k60 _ _ _ (⟨t165, t166, t167⟩ : S60) [.int .i64 t165, .int .i64 t166, .string t167] from (k60_mkM _ _ _ (⟨t165, t166, t167⟩ : S60) )) (Reps.none _ _)))
        intro v177 w38 ho39 hb hg_ hnew_
        clear hg_ hnew_
        (first | rw [← Ny176.out] at ho39 | (simp only [Int.reduceToNat] at ho39; rw [← Ny176.out] at ho39))
        have n0_ := jao (Kd.R_elder' (by (with_reducible repeat (first | apply Kd.R_alloc | apply Kd.R_drewN | apply Kd.R_drew)); exact HO0_0.out) (Kd.R_base ho39) hb)
        have n1_ := jao (Kd.R_below (by (with_reducible repeat (first | apply Kd.R_alloc | apply Kd.R_drewN | apply Kd.R_drew)); exact HO0_1.out) hb)
        have n2_ := jao (Kd.R_elder' (by (with_reducible repeat (first | apply Kd.R_alloc | apply Kd.R_drewN | apply Kd.R_drew)); exact HO175.out) (Kd.R_base ho39) hb)
        have n3_ := jao (Kd.R_lower (Kd.R_newB (Kd.R_new' (Kd.R_new' (Kd.R_newM (M := fun k_ => ((P0_0_ k_ ∨ P0_1_ k_) ∨ w.heap.size ≤ k_)) ho39 (by first | exact HK.out.1 | exact (show Kept w _ (fun k_ => P0_0_ k_ ∨ P0_1_ k_) from by repeat (first | (with_reducible first | exact HK.out | apply Kept.alloc | apply Kept.drewN | apply Kept.drew | refine Kept.setCell ?_ (.inr jav.out) _ | refine Kept.setCell ?_ (.inr jax.out) _ | refine Kept.setCell ?_ (.inr jaz.out) _) | exact HK.out)).1) (fun k_ h_ => .inr h_)) (Kd.R_lt (by (with_reducible repeat (first | apply Kd.R_alloc | apply Kd.R_drewN | apply Kd.R_drew)); exact HO0_0.out))) (Kd.R_lt (by (with_reducible repeat (first | apply Kd.R_alloc | apply Kd.R_drewN | apply Kd.R_drew)); exact HO175.out))) (g := jaq) (o := .cells #[.int .i64 t165, .int .i64 t166, .string t167] 60 (0, 0)) (by (with_reducible repeat (first | refine jad ?_ _ | refine jaf ?_ | refine jae ?_ _)); exact jat.out)) (below_size (by repeat (first | (with_reducible first | exact HB.out | apply jaj | apply jah | apply jai | refine jag ?_ jaw.out | refine jag ?_ jay.out | refine jag ?_ jba.out) | exact HB.out))))
        have n4_ := jao (blk_below (g := jar) (o := .cells #[.slice Ao21 l0_0.length co21, .slice Ao22 l0_1.length co22, .int .i64 a0_2, .int .i64 a0_3, .int .i64 a0_4] 41 (0, 0)) (by (with_reducible repeat (first | refine jad ?_ _ | refine jaf ?_ | refine jae ?_ _)); exact jap.out) hb)
        have n5_ := jao (blk_below (g := jau) (o := .cells #[.slice none 0 0, .slice none 0 0, .int .i64 0, .int .i64 0, .int .i64 0] 41 (0, 0)) (by (with_reducible repeat (first | refine jad ?_ _ | refine jaf ?_ | refine jae ?_ _)); exact jas.out) hb)
        have n6_ := jao (blk_below (g := jaq) (o := .cells #[.int .i64 t165, .int .i64 t166, .string t167] 60 (0, 0)) (by (with_reducible repeat (first | refine jad ?_ _ | refine jaf ?_ | refine jae ?_ _)); exact jat.out) hb)
        have n7_ := jao (Kept.below (S := (fun k_ => P0_0_ k_ ∨ P0_1_ k_)) (by repeat (first | (with_reducible first | exact HK.out | apply Kept.alloc | apply Kept.drewN | apply Kept.drew | refine Kept.setCell ?_ (.inr jav.out) _ | refine Kept.setCell ?_ (.inr jax.out) _ | refine Kept.setCell ?_ (.inr jaz.out) _) | exact HK.out)) hb)
        have n8_ := jao (below_step (by repeat (first | (with_reducible first | exact HB.out | apply jaj | apply jah | apply jai | refine jag ?_ jaw.out | refine jag ?_ jay.out | refine jag ?_ jba.out) | exact HB.out)) hb)
        clear HO0_0
        clear HO0_1
        clear HO175
        clear jap
        clear jas
        clear jat
        clear HK
        clear HB
        have HO0_0 := n0_
        have HO0_1 := n1_
        have HO175 := n2_
        have HO178 := n3_
        have jap := n4_
        have jas := n5_
        have jat := n6_
        have HK := n7_
        have HB := n8_
        clear n0_ n1_ n2_ n3_ n4_ n5_ n6_ n7_ n8_
        clear hb ho39
        refine hK.out _ _ ⟨(jak jap.out 0).trans rfl, (jak jap.out 1).trans rfl, (jak jap.out 2).trans rfl, (jak jap.out 3).trans rfl, (jak jap.out 4).trans rfl, (jak jat.out 0).trans rfl, (jak jat.out 1).trans rfl, (jak jat.out 2).trans rfl⟩ (fun hHeld => ?_)
        clear hK K
        refine norm_ (a' := ?_) ?_ ?_
        rotate_left
        ·show Act.put _ (some 28) _ = _
         simp only [Act.put, jaa, jab, jac, i64_w, i32_w]
         rfl
        exact norm_ (by simp only [putAll, Act.put, jaa, jab, jac]) (hCont (v171, v174, v177) _ ⟨hHeld, (by (with_reducible repeat (first | apply Kd.R_alloc | apply Kd.R_drewN | apply Kd.R_drew)); exact Kd.R_mono HO0_0.out (fun _ hk => ⟨hk.1.1.1, ⟨hk.1.2, ⟨hk.2, hk.1.1.2⟩⟩⟩)), (by (with_reducible repeat (first | apply Kd.R_alloc | apply Kd.R_drewN | apply Kd.R_drew)); exact HO0_1.out), (by (with_reducible repeat (first | apply Kd.R_alloc | apply Kd.R_drewN | apply Kd.R_drew)); exact Kd.R_mono HO175.out (fun _ hk => ⟨hk.1.1, ⟨hk.1.2.1, ⟨hk.2, hk.1.2.2⟩⟩⟩)), (by (with_reducible repeat (first | apply Kd.R_alloc | apply Kd.R_drewN | apply Kd.R_drew)); exact Kd.R_mono HO178.out (fun _ hk => ⟨hk.1.1.1.1, ⟨hk.1.1.2, ⟨hk.1.2, hk.2⟩⟩⟩)), (by (with_reducible repeat (first | refine jad ?_ _ | refine jaf ?_ | refine jae ?_ _)); exact jap.out), (by (with_reducible repeat (first | refine jad ?_ _ | refine jaf ?_ | refine jae ?_ _)); exact jas.out), (by (with_reducible repeat (first | refine jad ?_ _ | refine jaf ?_ | refine jae ?_ _)); exact jat.out), (by repeat (first | (with_reducible first | exact HK.out | apply Kept.alloc | apply Kept.drewN | apply Kept.drew | refine Kept.setCell ?_ (.inr jav.out) _ | refine Kept.setCell ?_ (.inr jax.out) _ | refine Kept.setCell ?_ (.inr jaz.out) _) | exact HK.out)), (by repeat (first | (with_reducible first | exact HB.out | apply jaj | apply jah | apply jai | refine jag ?_ jaw.out | refine jag ?_ jay.out | refine jag ?_ jba.out) | exact HB.out))⟩)
       ·skip
        refine Kd.R_lit_step k60 _ 60 ?hg (N := 28) ?hd (xs := ([(⟨t165, t166, t167⟩ : S60)] : List (S60))) (inner := [.int .i64 t165, .int .i64 t166, .string t167]) (ok := fun _ => True) (okp := fun _ => True) ?hr ?hp (fun _ hk => hk) trivial (Below.refl _ _) (Nat.le_refl _) (by simp) ?_; (case hd => rfl); (case hg => rfl); (case hr => first | (go_simp; done) | (go_simp; rfl)); (case hp => exact (Reps.c3 (show Kd.M k60 _ _ _ (⟨t165, t166, t167⟩ : S60) [.int .i64 t165, .int .i64 t166, .string t167] from (k60_mkM _ _ _ (⟨t165, t166, t167⟩ : S60) )) (Reps.none _ _)))
        intro v177 w37 ho38 hb hg_ hnew_
        clear hg_ hnew_
        (first | rw [← Ny176.out] at ho38 | (simp only [Int.reduceToNat] at ho38; rw [← Ny176.out] at ho38))
        have n0_ := jao (Kd.R_elder' (by (with_reducible repeat (first | apply Kd.R_alloc | apply Kd.R_drewN | apply Kd.R_drew)); exact HO0_0.out) (Kd.R_base ho38) hb)
        have n1_ := jao (Kd.R_below (by (with_reducible repeat (first | apply Kd.R_alloc | apply Kd.R_drewN | apply Kd.R_drew)); exact HO0_1.out) hb)
        have n2_ := jao (Kd.R_elder' (by (with_reducible repeat (first | apply Kd.R_alloc | apply Kd.R_drewN | apply Kd.R_drew)); exact HO172.out) (Kd.R_base ho38) hb)
        have n3_ := jao (Kd.R_lower (Kd.R_newB (Kd.R_new' (Kd.R_new' (Kd.R_newM (M := fun k_ => ((P0_0_ k_ ∨ P0_1_ k_) ∨ w.heap.size ≤ k_)) ho38 (by first | exact HK.out.1 | exact (show Kept w _ (fun k_ => P0_0_ k_ ∨ P0_1_ k_) from by repeat (first | (with_reducible first | exact HK.out | apply Kept.alloc | apply Kept.drewN | apply Kept.drew | refine Kept.setCell ?_ (.inr jav.out) _ | refine Kept.setCell ?_ (.inr jax.out) _ | refine Kept.setCell ?_ (.inr jaz.out) _) | exact HK.out)).1) (fun k_ h_ => .inr h_)) (Kd.R_lt (by (with_reducible repeat (first | apply Kd.R_alloc | apply Kd.R_drewN | apply Kd.R_drew)); exact HO0_0.out))) (Kd.R_lt (by (with_reducible repeat (first | apply Kd.R_alloc | apply Kd.R_drewN | apply Kd.R_drew)); exact HO172.out))) (g := jaq) (o := .cells #[.int .i64 t165, .int .i64 t166, .string t167] 60 (0, 0)) (by (with_reducible repeat (first | refine jad ?_ _ | refine jaf ?_ | refine jae ?_ _)); exact jat.out)) (below_size (by repeat (first | (with_reducible first | exact HB.out | apply jaj | apply jah | apply jai | refine jag ?_ jaw.out | refine jag ?_ jay.out | refine jag ?_ jba.out) | exact HB.out))))
        have n4_ := jao (blk_below (g := jar) (o := .cells #[.slice Ao21 l0_0.length co21, .slice Ao22 l0_1.length co22, .int .i64 a0_2, .int .i64 a0_3, .int .i64 a0_4] 41 (0, 0)) (by (with_reducible repeat (first | refine jad ?_ _ | refine jaf ?_ | refine jae ?_ _)); exact jap.out) hb)
        have n5_ := jao (blk_below (g := jau) (o := .cells #[.slice none 0 0, .slice none 0 0, .int .i64 0, .int .i64 0, .int .i64 0] 41 (0, 0)) (by (with_reducible repeat (first | refine jad ?_ _ | refine jaf ?_ | refine jae ?_ _)); exact jas.out) hb)
        have n6_ := jao (blk_below (g := jaq) (o := .cells #[.int .i64 t165, .int .i64 t166, .string t167] 60 (0, 0)) (by (with_reducible repeat (first | refine jad ?_ _ | refine jaf ?_ | refine jae ?_ _)); exact jat.out) hb)
        have n7_ := jao (Kept.below (S := (fun k_ => P0_0_ k_ ∨ P0_1_ k_)) (by repeat (first | (with_reducible first | exact HK.out | apply Kept.alloc | apply Kept.drewN | apply Kept.drew | refine Kept.setCell ?_ (.inr jav.out) _ | refine Kept.setCell ?_ (.inr jax.out) _ | refine Kept.setCell ?_ (.inr jaz.out) _) | exact HK.out)) hb)
        have n8_ := jao (below_step (by repeat (first | (with_reducible first | exact HB.out | apply jaj | apply jah | apply jai | refine jag ?_ jaw.out | refine jag ?_ jay.out | refine jag ?_ jba.out) | exact HB.out)) hb)
        clear HO0_0
        clear HO0_1
        clear HO172
        clear jap
        clear jas
        clear jat
        clear HK
        clear HB
        have HO0_0 := n0_
        have HO0_1 := n1_
        have HO172 := n2_
        have HO178 := n3_
        have jap := n4_
        have jas := n5_
        have jat := n6_
        have HK := n7_
        have HB := n8_
        clear n0_ n1_ n2_ n3_ n4_ n5_ n6_ n7_ n8_
        clear hb ho38
        refine hK.out _ _ ⟨(jak jap.out 0).trans rfl, (jak jap.out 1).trans rfl, (jak jap.out 2).trans rfl, (jak jap.out 3).trans rfl, (jak jap.out 4).trans rfl, (jak jat.out 0).trans rfl, (jak jat.out 1).trans rfl, (jak jat.out 2).trans rfl⟩ (fun hHeld => ?_)
        clear hK K
        refine norm_ (a' := ?_) ?_ ?_
        rotate_left
        ·show Act.put _ (some 28) _ = _
         simp only [Act.put, jaa, jab, jac, i64_w, i32_w]
         rfl
        refine one_ (i := 3) (N := some 26) #[true, true, true, true, true, true, false, false, false] rfl rfl (one_of HT_.out (by kernel_rfl)) (by decide) (fun K hK => ?_)
        refine Kd.R_append_rows_step k60 (w0 := w0) w0.heap.size (by rfl) (.tmp 23) (.tmp 25) 38 60 (.agg #[(.int .i64 0), (.int .i64 0), (.string ⟨#[]⟩)]) 32 rfl Try.underlying38 info60 rfl (by decide) (by omega) v171 y170 l0_0 _ _ _ (fun k_ => ((P0_0_ k_ ∨ P0_1_ k_) ∨ w.heap.size ≤ k_) ∧ some k_ ≠ (.slice Ao21 l0_0.length co21 : Value).ownBlock ∧ some k_ ≠ (v177 : Value).ownBlock ∧ k_ ≠ jaq) (fun _ => False) rfl rfl ?aO ?aR (fun _ _ h => h) (fun _ h => h.elim) ?aF ?aB ?aS ?aL ?_
        (case aR => repeat (first | exact (Kd.R_reads' HO0_0.out).2.2 | (with_reducible refine Kd.C_alloc ?_ _) | (with_reducible refine Kd.C_drewN ?_ _) | (with_reducible refine Kd.C_drew ?_)))
        (case aB => exact (by repeat (first | (with_reducible first | exact HB.out | apply jaj | apply jah | apply jai | refine jag ?_ jaw.out | refine jag ?_ jay.out | refine jag ?_ jba.out) | exact HB.out)))
        (case aF => exact (fun k_ hk => ⟨(.inr (Nat.le_trans (by first | exact HK.out.1 | exact (show Kept w _ (fun k_ => P0_0_ k_ ∨ P0_1_ k_) from by repeat (first | (with_reducible first | exact HK.out | apply Kept.alloc | apply Kept.drewN | apply Kept.drew | refine Kept.setCell ?_ (.inr jav.out) _ | refine Kept.setCell ?_ (.inr jax.out) _ | refine Kept.setCell ?_ (.inr jaz.out) _) | exact HK.out)).1) hk)), Kd.fresh' (Kd.R_lt (by (with_reducible repeat (first | apply Kd.R_alloc | apply Kd.R_drewN | apply Kd.R_drew)); exact HO0_0.out)) k_ hk, Kd.fresh' (Kd.R_lt (by (with_reducible repeat (first | apply Kd.R_alloc | apply Kd.R_drewN | apply Kd.R_drew)); exact HO178.out)) k_ hk, Kd.freshB (g := jaq) (o := .cells #[.int .i64 t165, .int .i64 t166, .string t167] 60 (0, 0)) (by (with_reducible repeat (first | refine jad ?_ _ | refine jaf ?_ | refine jae ?_ _)); exact jat.out) k_ hk⟩))
        (case aO => exact (by (with_reducible repeat (first | apply Kd.R_alloc | apply Kd.R_drewN | apply Kd.R_drew)); exact Kd.R_mono HO172.out (fun _ hk => ⟨hk.1.1.1.1, ⟨hk.1.1.2, ⟨hk.2, hk.1.2⟩⟩⟩)))
        (case aS => exact (below_size (by repeat (first | (with_reducible first | exact HB.out | apply jaj | apply jah | apply jai | refine jag ?_ jaw.out | refine jag ?_ jay.out | refine jag ?_ jba.out) | exact HB.out))))
        (case aL => have := LMc19.out; omega)
        intro v174 w39 ho hb hg hat
        rw [← Ny173.out] at ho
        have n0_ := jao (Kd.R_after (ok := (fun k_ => ((P0_0_ k_ ∨ P0_1_ k_) ∨ w.heap.size ≤ k_) ∧ some k_ ≠ (v177 : Value).ownBlock ∧ k_ ≠ jaq)) (by (with_reducible repeat (first | apply Kd.R_alloc | apply Kd.R_drewN | apply Kd.R_drew)); exact Kd.R_mono HO0_0.out (fun _ hk => ⟨⟨hk.1.1.1, ⟨hk.2, hk.1.1.2⟩⟩, hk.1.2⟩)) hg hat)
        have n1_ := jao (Kd.R_over' (by (with_reducible repeat (first | apply Kd.R_alloc | apply Kd.R_drewN | apply Kd.R_drew)); exact HO0_1.out) (Kd.R_typed (by (with_reducible repeat (first | apply Kd.R_alloc | apply Kd.R_drewN | apply Kd.R_drew)); exact HO172.out)) (by decide) hg)
        have n2_ := jao (blk_grown (g := jar) (o := .cells #[.slice Ao21 l0_0.length co21, .slice Ao22 l0_1.length co22, .int .i64 a0_2, .int .i64 a0_3, .int .i64 a0_4] 41 (0, 0)) (by (with_reducible repeat (first | refine jad ?_ _ | refine jaf ?_ | refine jae ?_ _)); exact jap.out) hg (Kd.R_ne HO172.out jap.out (by decide)))
        have n3_ := jao (blk_grown (g := jau) (o := .cells #[.slice none 0 0, .slice none 0 0, .int .i64 0, .int .i64 0, .int .i64 0] 41 (0, 0)) (by (with_reducible repeat (first | refine jad ?_ _ | refine jaf ?_ | refine jae ?_ _)); exact jas.out) hg (Kd.R_ne HO172.out jas.out (by decide)))
        have n4_ := jao (blk_grown (g := jaq) (o := .cells #[.int .i64 t165, .int .i64 t166, .string t167] 60 (0, 0)) (by (with_reducible repeat (first | refine jad ?_ _ | refine jaf ?_ | refine jae ?_ _)); exact jat.out) hg (Kd.R_away HO172.out (fun _ hk => hk.1.2)))
        have n5_ := jao (Kd.R_after (ok := (fun k_ => ((P0_0_ k_ ∨ P0_1_ k_) ∨ w.heap.size ≤ k_) ∧ some k_ ≠ (.slice Ao21 l0_0.length co21 : Value).ownBlock ∧ k_ ≠ jaq)) (by (with_reducible repeat (first | apply Kd.R_alloc | apply Kd.R_drewN | apply Kd.R_drew)); exact Kd.R_mono HO178.out (fun _ hk => ⟨⟨hk.1.1.1.1, ⟨hk.1.1.2, hk.2⟩⟩, hk.1.2⟩)) hg hat)
        have n6_ := jao (hb)
        have n7_ := jao (Kept.of_grown (S := (fun k_ => P0_0_ k_ ∨ P0_1_ k_)) hg (by repeat (first | (with_reducible first | exact HK.out | apply Kept.alloc | apply Kept.drewN | apply Kept.drew | refine Kept.setCell ?_ (.inr jav.out) _ | refine Kept.setCell ?_ (.inr jax.out) _ | refine Kept.setCell ?_ (.inr jaz.out) _) | exact HK.out)) (fun k_ e_ => (HO172.out.1 k_ e_).1.1.1.1))
        have n8_ := jao (ho)
        clear HO0_0
        clear HO0_1
        clear jap
        clear jas
        clear jat
        clear HO178
        clear HB
        clear HK
        clear HO172
        have HO0_0 := n0_
        have HO0_1 := n1_
        have jap := n2_
        have jas := n3_
        have jat := n4_
        have HO178 := n5_
        have HB := n6_
        have HK := n7_
        have HO175 := n8_
        clear n0_ n1_ n2_ n3_ n4_ n5_ n6_ n7_ n8_
        clear ho hb hg hat
        refine hK.out _ _ ⟨(jak jap.out 0).trans rfl, (jak jap.out 1).trans rfl, (jak jap.out 2).trans rfl, (jak jap.out 3).trans rfl, (jak jap.out 4).trans rfl, (jak jat.out 0).trans rfl, (jak jat.out 1).trans rfl, (jak jat.out 2).trans rfl⟩ (fun hHeld => ?_)
        clear hK K
        refine norm_ (a' := ?_) ?_ ?_
        rotate_left
        ·show Act.put _ (some 26) _ = _
         simp only [Act.put, jaa, jab, jac, i64_w, i32_w]
         rfl
        exact norm_ (by simp only [putAll, Act.put, jaa, jab, jac]) (hCont (v171, v174, v177) _ ⟨hHeld, (by (with_reducible repeat (first | apply Kd.R_alloc | apply Kd.R_drewN | apply Kd.R_drew)); exact Kd.R_mono HO0_0.out (fun _ hk => ⟨hk.1.1, ⟨hk.2, ⟨hk.1.2.1, hk.1.2.2⟩⟩⟩)), (by (with_reducible repeat (first | apply Kd.R_alloc | apply Kd.R_drewN | apply Kd.R_drew)); exact HO0_1.out), (by (with_reducible repeat (first | apply Kd.R_alloc | apply Kd.R_drewN | apply Kd.R_drew)); exact HO175.out), (by (with_reducible repeat (first | apply Kd.R_alloc | apply Kd.R_drewN | apply Kd.R_drew)); exact Kd.R_mono HO178.out (fun _ hk => ⟨hk.1.1, ⟨hk.1.2.1, ⟨hk.2, hk.1.2.2⟩⟩⟩)), (by (with_reducible repeat (first | refine jad ?_ _ | refine jaf ?_ | refine jae ?_ _)); exact jap.out), (by (with_reducible repeat (first | refine jad ?_ _ | refine jaf ?_ | refine jae ?_ _)); exact jas.out), (by (with_reducible repeat (first | refine jad ?_ _ | refine jaf ?_ | refine jae ?_ _)); exact jat.out), (by repeat (first | (with_reducible first | exact HK.out | apply Kept.alloc | apply Kept.drewN | apply Kept.drew | refine Kept.setCell ?_ (.inr jav.out) _ | refine Kept.setCell ?_ (.inr jax.out) _ | refine Kept.setCell ?_ (.inr jaz.out) _) | exact HK.out)), (by repeat (first | (with_reducible first | exact HB.out | apply jaj | apply jah | apply jai | refine jag ?_ jaw.out | refine jag ?_ jay.out | refine jag ?_ jba.out) | exact HB.out))⟩)
      ·skip
       refine Kd.R_lit_step k60 _ 60 ?hg (N := 28) ?hd (xs := ([(⟨t165, t166, t167⟩ : S60)] : List (S60))) (inner := [.int .i64 t165, .int .i64 t166, .string t167]) (ok := fun _ => True) (okp := fun _ => True) ?hr ?hp (fun _ hk => hk) trivial (Below.refl _ _) (Nat.le_refl _) (by simp) ?_; (case hd => rfl); (case hg => rfl); (case hr => first | (go_simp; done) | (go_simp; rfl)); (case hp => exact (Reps.c3 (show Kd.M k60 _ _ _ (⟨t165, t166, t167⟩ : S60) [.int .i64 t165, .int .i64 t166, .string t167] from (k60_mkM _ _ _ (⟨t165, t166, t167⟩ : S60) )) (Reps.none _ _)))
       intro v177 w35 ho36 hb hg_ hnew_
       clear hg_ hnew_
       (first | rw [← Ny176.out] at ho36 | (simp only [Int.reduceToNat] at ho36; rw [← Ny176.out] at ho36))
       have n0_ := jao (Kd.R_elder' (by (with_reducible repeat (first | apply Kd.R_alloc | apply Kd.R_drewN | apply Kd.R_drew)); exact HO0_0.out) (Kd.R_base ho36) hb)
       have n1_ := jao (Kd.R_below (by (with_reducible repeat (first | apply Kd.R_alloc | apply Kd.R_drewN | apply Kd.R_drew)); exact HO0_1.out) hb)
       have n2_ := jao (Kd.R_lower (Kd.R_newB (Kd.R_new' (Kd.R_newM (M := fun k_ => ((P0_0_ k_ ∨ P0_1_ k_) ∨ w.heap.size ≤ k_)) ho36 (by first | exact HK.out.1 | exact (show Kept w _ (fun k_ => P0_0_ k_ ∨ P0_1_ k_) from by repeat (first | (with_reducible first | exact HK.out | apply Kept.alloc | apply Kept.drewN | apply Kept.drew | refine Kept.setCell ?_ (.inr jav.out) _ | refine Kept.setCell ?_ (.inr jax.out) _ | refine Kept.setCell ?_ (.inr jaz.out) _) | exact HK.out)).1) (fun k_ h_ => .inr h_)) (Kd.R_lt (by (with_reducible repeat (first | apply Kd.R_alloc | apply Kd.R_drewN | apply Kd.R_drew)); exact HO0_0.out))) (g := jaq) (o := .cells #[.int .i64 t165, .int .i64 t166, .string t167] 60 (0, 0)) (by (with_reducible repeat (first | refine jad ?_ _ | refine jaf ?_ | refine jae ?_ _)); exact jat.out)) (below_size (by repeat (first | (with_reducible first | exact HB.out | apply jaj | apply jah | apply jai | refine jag ?_ jaw.out | refine jag ?_ jay.out | refine jag ?_ jba.out) | exact HB.out))))
       have n3_ := jao (blk_below (g := jar) (o := .cells #[.slice Ao21 l0_0.length co21, .slice Ao22 l0_1.length co22, .int .i64 a0_2, .int .i64 a0_3, .int .i64 a0_4] 41 (0, 0)) (by (with_reducible repeat (first | refine jad ?_ _ | refine jaf ?_ | refine jae ?_ _)); exact jap.out) hb)
       have n4_ := jao (blk_below (g := jau) (o := .cells #[.slice none 0 0, .slice none 0 0, .int .i64 0, .int .i64 0, .int .i64 0] 41 (0, 0)) (by (with_reducible repeat (first | refine jad ?_ _ | refine jaf ?_ | refine jae ?_ _)); exact jas.out) hb)
       have n5_ := jao (blk_below (g := jaq) (o := .cells #[.int .i64 t165, .int .i64 t166, .string t167] 60 (0, 0)) (by (with_reducible repeat (first | refine jad ?_ _ | refine jaf ?_ | refine jae ?_ _)); exact jat.out) hb)
       have n6_ := jao (Kept.below (S := (fun k_ => P0_0_ k_ ∨ P0_1_ k_)) (by repeat (first | (with_reducible first | exact HK.out | apply Kept.alloc | apply Kept.drewN | apply Kept.drew | refine Kept.setCell ?_ (.inr jav.out) _ | refine Kept.setCell ?_ (.inr jax.out) _ | refine Kept.setCell ?_ (.inr jaz.out) _) | exact HK.out)) hb)
       have n7_ := jao (below_step (by repeat (first | (with_reducible first | exact HB.out | apply jaj | apply jah | apply jai | refine jag ?_ jaw.out | refine jag ?_ jay.out | refine jag ?_ jba.out) | exact HB.out)) hb)
       clear HO0_0
       clear HO0_1
       clear jap
       clear jas
       clear jat
       clear HK
       clear HB
       have HO0_0 := n0_
       have HO0_1 := n1_
       have HO178 := n2_
       have jap := n3_
       have jas := n4_
       have jat := n5_
       have HK := n6_
       have HB := n7_
       clear n0_ n1_ n2_ n3_ n4_ n5_ n6_ n7_
       clear hb ho36
       refine hK.out _ _ ⟨(jak jap.out 0).trans rfl, (jak jap.out 1).trans rfl, (jak jap.out 2).trans rfl, (jak jap.out 3).trans rfl, (jak jap.out 4).trans rfl, (jak jat.out 0).trans rfl, (jak jat.out 1).trans rfl, (jak jat.out 2).trans rfl⟩ (fun hHeld => ?_)
       clear hK K
       refine norm_ (a' := ?_) ?_ ?_
       rotate_left
       ·show Act.put _ (some 28) _ = _
        simp only [Act.put, jaa, jab, jac, i64_w, i32_w]
        rfl
       refine one_ (i := 0) (N := some 23) #[true, true, true, false, true, true, false, false, false] rfl rfl (one_of HT_.out (by kernel_rfl)) (by decide) (fun K hK => ?_)
       refine Kd.R_lit_step k60 _ 60 ?hg (N := 23) ?hd (xs := ([] : List (S60))) (inner := []) (ok := fun _ => True) (okp := fun _ => True) ?hr ?hp (fun _ hk => hk) trivial (Below.refl _ _) (Nat.le_refl _) (by simp) ?_; (case hd => rfl); (case hg => rfl); (case hr => first | (go_simp; done) | (go_simp; rfl)); (case hp => exact (Reps.none _ _))
       intro v171 w37 ho38 hb hg_ hnew_
       clear hg_ hnew_
       (first | rw [← Ny170.out] at ho38 | (simp only [Int.reduceToNat] at ho38; rw [← Ny170.out] at ho38))
       have n0_ := jao (Kd.R_elder' (by (with_reducible repeat (first | apply Kd.R_alloc | apply Kd.R_drewN | apply Kd.R_drew)); exact HO0_0.out) (Kd.R_base ho38) hb)
       have n1_ := jao (Kd.R_below (by (with_reducible repeat (first | apply Kd.R_alloc | apply Kd.R_drewN | apply Kd.R_drew)); exact HO0_1.out) hb)
       have n2_ := jao (Kd.R_elder' (by (with_reducible repeat (first | apply Kd.R_alloc | apply Kd.R_drewN | apply Kd.R_drew)); exact HO178.out) (Kd.R_base ho38) hb)
       have n3_ := jao (Kd.R_lower (Kd.R_newB (Kd.R_new' (Kd.R_new' (Kd.R_newM (M := fun k_ => ((P0_0_ k_ ∨ P0_1_ k_) ∨ w.heap.size ≤ k_)) ho38 (by first | exact HK.out.1 | exact (show Kept w _ (fun k_ => P0_0_ k_ ∨ P0_1_ k_) from by repeat (first | (with_reducible first | exact HK.out | apply Kept.alloc | apply Kept.drewN | apply Kept.drew | refine Kept.setCell ?_ (.inr jav.out) _ | refine Kept.setCell ?_ (.inr jax.out) _ | refine Kept.setCell ?_ (.inr jaz.out) _) | exact HK.out)).1) (fun k_ h_ => .inr h_)) (Kd.R_lt (by (with_reducible repeat (first | apply Kd.R_alloc | apply Kd.R_drewN | apply Kd.R_drew)); exact HO0_0.out))) (Kd.R_lt (by (with_reducible repeat (first | apply Kd.R_alloc | apply Kd.R_drewN | apply Kd.R_drew)); exact HO178.out))) (g := jaq) (o := .cells #[.int .i64 t165, .int .i64 t166, .string t167] 60 (0, 0)) (by (with_reducible repeat (first | refine jad ?_ _ | refine jaf ?_ | refine jae ?_ _)); exact jat.out)) (below_size (by repeat (first | (with_reducible first | exact HB.out | apply jaj | apply jah | apply jai | refine jag ?_ jaw.out | refine jag ?_ jay.out | refine jag ?_ jba.out) | exact HB.out))))
       have n4_ := jao (blk_below (g := jar) (o := .cells #[.slice Ao21 l0_0.length co21, .slice Ao22 l0_1.length co22, .int .i64 a0_2, .int .i64 a0_3, .int .i64 a0_4] 41 (0, 0)) (by (with_reducible repeat (first | refine jad ?_ _ | refine jaf ?_ | refine jae ?_ _)); exact jap.out) hb)
       have n5_ := jao (blk_below (g := jau) (o := .cells #[.slice none 0 0, .slice none 0 0, .int .i64 0, .int .i64 0, .int .i64 0] 41 (0, 0)) (by (with_reducible repeat (first | refine jad ?_ _ | refine jaf ?_ | refine jae ?_ _)); exact jas.out) hb)
       have n6_ := jao (blk_below (g := jaq) (o := .cells #[.int .i64 t165, .int .i64 t166, .string t167] 60 (0, 0)) (by (with_reducible repeat (first | refine jad ?_ _ | refine jaf ?_ | refine jae ?_ _)); exact jat.out) hb)
       have n7_ := jao (Kept.below (S := (fun k_ => P0_0_ k_ ∨ P0_1_ k_)) (by repeat (first | (with_reducible first | exact HK.out | apply Kept.alloc | apply Kept.drewN | apply Kept.drew | refine Kept.setCell ?_ (.inr jav.out) _ | refine Kept.setCell ?_ (.inr jax.out) _ | refine Kept.setCell ?_ (.inr jaz.out) _) | exact HK.out)) hb)
       have n8_ := jao (below_step (by repeat (first | (with_reducible first | exact HB.out | apply jaj | apply jah | apply jai | refine jag ?_ jaw.out | refine jag ?_ jay.out | refine jag ?_ jba.out) | exact HB.out)) hb)
       clear HO0_0
       clear HO0_1
       clear HO178
       clear jap
       clear jas
       clear jat
       clear HK
       clear HB
       have HO0_0 := n0_
       have HO0_1 := n1_
       have HO178 := n2_
       have HO172 := n3_
       have jap := n4_
       have jas := n5_
       have jat := n6_
       have HK := n7_
       have HB := n8_
       clear n0_ n1_ n2_ n3_ n4_ n5_ n6_ n7_ n8_
       clear hb ho38
       refine hK.out _ _ ⟨(jak jap.out 0).trans rfl, (jak jap.out 1).trans rfl, (jak jap.out 2).trans rfl, (jak jap.out 3).trans rfl, (jak jap.out 4).trans rfl, (jak jat.out 0).trans rfl, (jak jat.out 1).trans rfl, (jak jat.out 2).trans rfl⟩ (fun hHeld => ?_)
       clear hK K
       refine norm_ (a' := ?_) ?_ ?_
       rotate_left
       ·show Act.put _ (some 23) _ = _
        simp only [Act.put, jaa, jab, jac, i64_w, i32_w]
        rfl
       refine one_ (i := 3) (N := some 26) #[true, true, true, true, true, true, false, false, false] rfl rfl (one_of HT_.out (by kernel_rfl)) (by decide) (fun K hK => ?_)
       refine Kd.R_append_rows_step k60 (w0 := w0) w0.heap.size (by rfl) (.tmp 23) (.tmp 25) 38 60 (.agg #[(.int .i64 0), (.int .i64 0), (.string ⟨#[]⟩)]) 32 rfl Try.underlying38 info60 rfl (by decide) (by omega) v171 y170 l0_0 _ _ _ (fun k_ => ((P0_0_ k_ ∨ P0_1_ k_) ∨ w.heap.size ≤ k_) ∧ some k_ ≠ (.slice Ao21 l0_0.length co21 : Value).ownBlock ∧ some k_ ≠ (v177 : Value).ownBlock ∧ k_ ≠ jaq) (fun _ => False) rfl rfl ?aO ?aR (fun _ _ h => h) (fun _ h => h.elim) ?aF ?aB ?aS ?aL ?_
       (case aR => repeat (first | exact (Kd.R_reads' HO0_0.out).2.2 | (with_reducible refine Kd.C_alloc ?_ _) | (with_reducible refine Kd.C_drewN ?_ _) | (with_reducible refine Kd.C_drew ?_)))
       (case aB => exact (by repeat (first | (with_reducible first | exact HB.out | apply jaj | apply jah | apply jai | refine jag ?_ jaw.out | refine jag ?_ jay.out | refine jag ?_ jba.out) | exact HB.out)))
       (case aF => exact (fun k_ hk => ⟨(.inr (Nat.le_trans (by first | exact HK.out.1 | exact (show Kept w _ (fun k_ => P0_0_ k_ ∨ P0_1_ k_) from by repeat (first | (with_reducible first | exact HK.out | apply Kept.alloc | apply Kept.drewN | apply Kept.drew | refine Kept.setCell ?_ (.inr jav.out) _ | refine Kept.setCell ?_ (.inr jax.out) _ | refine Kept.setCell ?_ (.inr jaz.out) _) | exact HK.out)).1) hk)), Kd.fresh' (Kd.R_lt (by (with_reducible repeat (first | apply Kd.R_alloc | apply Kd.R_drewN | apply Kd.R_drew)); exact HO0_0.out)) k_ hk, Kd.fresh' (Kd.R_lt (by (with_reducible repeat (first | apply Kd.R_alloc | apply Kd.R_drewN | apply Kd.R_drew)); exact HO178.out)) k_ hk, Kd.freshB (g := jaq) (o := .cells #[.int .i64 t165, .int .i64 t166, .string t167] 60 (0, 0)) (by (with_reducible repeat (first | refine jad ?_ _ | refine jaf ?_ | refine jae ?_ _)); exact jat.out) k_ hk⟩))
       (case aO => exact (by (with_reducible repeat (first | apply Kd.R_alloc | apply Kd.R_drewN | apply Kd.R_drew)); exact Kd.R_mono HO172.out (fun _ hk => ⟨hk.1.1.1.1, ⟨hk.1.1.2, ⟨hk.1.2, hk.2⟩⟩⟩)))
       (case aS => exact (below_size (by repeat (first | (with_reducible first | exact HB.out | apply jaj | apply jah | apply jai | refine jag ?_ jaw.out | refine jag ?_ jay.out | refine jag ?_ jba.out) | exact HB.out))))
       (case aL => have := LMc19.out; omega)
       intro v174 w39 ho hb hg hat
       rw [← Ny173.out] at ho
       have n0_ := jao (Kd.R_after (ok := (fun k_ => ((P0_0_ k_ ∨ P0_1_ k_) ∨ w.heap.size ≤ k_) ∧ some k_ ≠ (v177 : Value).ownBlock ∧ k_ ≠ jaq)) (by (with_reducible repeat (first | apply Kd.R_alloc | apply Kd.R_drewN | apply Kd.R_drew)); exact Kd.R_mono HO0_0.out (fun _ hk => ⟨⟨hk.1.1.1, ⟨hk.1.2, hk.1.1.2⟩⟩, hk.2⟩)) hg hat)
       have n1_ := jao (Kd.R_over' (by (with_reducible repeat (first | apply Kd.R_alloc | apply Kd.R_drewN | apply Kd.R_drew)); exact HO0_1.out) (Kd.R_typed (by (with_reducible repeat (first | apply Kd.R_alloc | apply Kd.R_drewN | apply Kd.R_drew)); exact HO172.out)) (by decide) hg)
       have n2_ := jao (blk_grown (g := jar) (o := .cells #[.slice Ao21 l0_0.length co21, .slice Ao22 l0_1.length co22, .int .i64 a0_2, .int .i64 a0_3, .int .i64 a0_4] 41 (0, 0)) (by (with_reducible repeat (first | refine jad ?_ _ | refine jaf ?_ | refine jae ?_ _)); exact jap.out) hg (Kd.R_ne HO172.out jap.out (by decide)))
       have n3_ := jao (blk_grown (g := jau) (o := .cells #[.slice none 0 0, .slice none 0 0, .int .i64 0, .int .i64 0, .int .i64 0] 41 (0, 0)) (by (with_reducible repeat (first | refine jad ?_ _ | refine jaf ?_ | refine jae ?_ _)); exact jas.out) hg (Kd.R_ne HO172.out jas.out (by decide)))
       have n4_ := jao (blk_grown (g := jaq) (o := .cells #[.int .i64 t165, .int .i64 t166, .string t167] 60 (0, 0)) (by (with_reducible repeat (first | refine jad ?_ _ | refine jaf ?_ | refine jae ?_ _)); exact jat.out) hg (Kd.R_away HO172.out (fun _ hk => hk.2)))
       have n5_ := jao (Kd.R_after (ok := (fun k_ => ((P0_0_ k_ ∨ P0_1_ k_) ∨ w.heap.size ≤ k_) ∧ some k_ ≠ (.slice Ao21 l0_0.length co21 : Value).ownBlock ∧ k_ ≠ jaq)) (by (with_reducible repeat (first | apply Kd.R_alloc | apply Kd.R_drewN | apply Kd.R_drew)); exact Kd.R_mono HO178.out (fun _ hk => ⟨⟨hk.1.1.1.1, ⟨hk.1.1.2, hk.1.2⟩⟩, hk.2⟩)) hg hat)
       have n6_ := jao (hb)
       have n7_ := jao (Kept.of_grown (S := (fun k_ => P0_0_ k_ ∨ P0_1_ k_)) hg (by repeat (first | (with_reducible first | exact HK.out | apply Kept.alloc | apply Kept.drewN | apply Kept.drew | refine Kept.setCell ?_ (.inr jav.out) _ | refine Kept.setCell ?_ (.inr jax.out) _ | refine Kept.setCell ?_ (.inr jaz.out) _) | exact HK.out)) (fun k_ e_ => (HO172.out.1 k_ e_).1.1.1.1))
       have n8_ := jao (ho)
       clear HO0_0
       clear HO0_1
       clear jap
       clear jas
       clear jat
       clear HO178
       clear HB
       clear HK
       clear HO172
       have HO0_0 := n0_
       have HO0_1 := n1_
       have jap := n2_
       have jas := n3_
       have jat := n4_
       have HO178 := n5_
       have HB := n6_
       have HK := n7_
       have HO175 := n8_
       clear n0_ n1_ n2_ n3_ n4_ n5_ n6_ n7_ n8_
       clear ho hb hg hat
       refine hK.out _ _ ⟨(jak jap.out 0).trans rfl, (jak jap.out 1).trans rfl, (jak jap.out 2).trans rfl, (jak jap.out 3).trans rfl, (jak jap.out 4).trans rfl, (jak jat.out 0).trans rfl, (jak jat.out 1).trans rfl, (jak jat.out 2).trans rfl⟩ (fun hHeld => ?_)
       clear hK K
       refine norm_ (a' := ?_) ?_ ?_
       rotate_left
       ·show Act.put _ (some 26) _ = _
        simp only [Act.put, jaa, jab, jac, i64_w, i32_w]
        rfl
       exact norm_ (by simp only [putAll, Act.put, jaa, jab, jac]) (hCont (v171, v174, v177) _ ⟨hHeld, (by (with_reducible repeat (first | apply Kd.R_alloc | apply Kd.R_drewN | apply Kd.R_drew)); exact Kd.R_mono HO0_0.out (fun _ hk => ⟨hk.1.1, ⟨hk.2, ⟨hk.1.2.1, hk.1.2.2⟩⟩⟩)), (by (with_reducible repeat (first | apply Kd.R_alloc | apply Kd.R_drewN | apply Kd.R_drew)); exact HO0_1.out), (by (with_reducible repeat (first | apply Kd.R_alloc | apply Kd.R_drewN | apply Kd.R_drew)); exact HO175.out), (by (with_reducible repeat (first | apply Kd.R_alloc | apply Kd.R_drewN | apply Kd.R_drew)); exact Kd.R_mono HO178.out (fun _ hk => ⟨hk.1.1, ⟨hk.1.2.1, ⟨hk.2, hk.1.2.2⟩⟩⟩)), (by (with_reducible repeat (first | refine jad ?_ _ | refine jaf ?_ | refine jae ?_ _)); exact jap.out), (by (with_reducible repeat (first | refine jad ?_ _ | refine jaf ?_ | refine jae ?_ _)); exact jas.out), (by (with_reducible repeat (first | refine jad ?_ _ | refine jaf ?_ | refine jae ?_ _)); exact jat.out), (by repeat (first | (with_reducible first | exact HK.out | apply Kept.alloc | apply Kept.drewN | apply Kept.drew | refine Kept.setCell ?_ (.inr jav.out) _ | refine Kept.setCell ?_ (.inr jax.out) _ | refine Kept.setCell ?_ (.inr jaz.out) _) | exact HK.out)), (by repeat (first | (with_reducible first | exact HB.out | apply jaj | apply jah | apply jai | refine jag ?_ jaw.out | refine jag ?_ jay.out | refine jag ?_ jba.out) | exact HB.out))⟩)
     rintro ⟨v171, v174, v177⟩ w40 ⟨hS_, h0_, h1_, h2_, h3_, h4_, h5_, h6_, h7_, h8_⟩
     have n0_ : Aside0 (Kd.R k60 60 w40 w0.heap.size (fun k_ => ((P0_0_ k_ ∨ P0_1_ k_) ∨ w.heap.size ≤ k_) ∧ some k_ ≠ (v174 : Value).ownBlock ∧ some k_ ≠ (v177 : Value).ownBlock ∧ k_ ≠ jaq) (.slice Ao21 l0_0.length co21) l0_0) := ⟨h0_⟩
     have n1_ : Aside0 (Kd.R k71 71 w40 w0.heap.size (fun k_ => ((P0_0_ k_ ∨ P0_1_ k_) ∨ w.heap.size ≤ k_)) (.slice Ao22 l0_1.length co22) l0_1) := ⟨h1_⟩
     have n2_ : Aside0 (Kd.R k60 60 w40 w0.heap.size (fun k_ => ((P0_0_ k_ ∨ P0_1_ k_) ∨ w.heap.size ≤ k_) ∧ some k_ ≠ (.slice Ao21 l0_0.length co21 : Value).ownBlock ∧ some k_ ≠ (v177 : Value).ownBlock ∧ k_ ≠ jaq) v174 y173) := ⟨h2_⟩
     have n3_ : Aside0 (Kd.R k60 60 w40 w0.heap.size (fun k_ => ((P0_0_ k_ ∨ P0_1_ k_) ∨ w.heap.size ≤ k_) ∧ some k_ ≠ (.slice Ao21 l0_0.length co21 : Value).ownBlock ∧ some k_ ≠ (v174 : Value).ownBlock ∧ k_ ≠ jaq) v177 y176) := ⟨h3_⟩
     have n4_ : Aside0 (w40.heap[jar]? = some (.cells #[.slice Ao21 l0_0.length co21, .slice Ao22 l0_1.length co22, .int .i64 a0_2, .int .i64 a0_3, .int .i64 a0_4] 41 (0, 0))) := ⟨h4_⟩
     have n5_ : Aside0 (w40.heap[jau]? = some (.cells #[.slice none 0 0, .slice none 0 0, .int .i64 0, .int .i64 0, .int .i64 0] 41 (0, 0))) := ⟨h5_⟩
     have n6_ : Aside0 (w40.heap[jaq]? = some (.cells #[.int .i64 t165, .int .i64 t166, .string t167] 60 (0, 0))) := ⟨h6_⟩
     have n7_ : Aside0 (Kept w w40 (fun k_ => P0_0_ k_ ∨ P0_1_ k_)) := ⟨h7_⟩
     have n8_ : Aside0 (Below w0.heap.size w0 w40) := ⟨h8_⟩
     clear HO0_0
     clear HO0_1
     clear jap
     clear jas
     clear jat
     clear HK
     clear HB
     clear h0_ h1_ h2_ h3_ h4_ h5_ h6_ h7_ h8_
     have HO0_0 := n0_
     have HO0_1 := n1_
     have HO175 := n2_
     have HO178 := n3_
     have jap := n4_
     have jas := n5_
     have jat := n6_
     have HK := n7_
     have HB := n8_
     clear n0_ n1_ n2_ n3_ n4_ n5_ n6_ n7_ n8_
     have hHeld : w40.cell? ⟨jar, 0, none⟩ = some (.slice Ao21 l0_0.length co21) ∧ w40.cell? ⟨jar, 1, none⟩ = some (.slice Ao22 l0_1.length co22) ∧ w40.cell? ⟨jar, 2, none⟩ = some (.int .i64 a0_2) ∧ w40.cell? ⟨jar, 3, none⟩ = some (.int .i64 a0_3) ∧ w40.cell? ⟨jar, 4, none⟩ = some (.int .i64 a0_4) ∧ w40.cell? ⟨jaq, 0, none⟩ = some (.int .i64 t165) ∧ w40.cell? ⟨jaq, 1, none⟩ = some (.int .i64 t166) ∧ w40.cell? ⟨jaq, 2, none⟩ = some (.string t167) := hS_
     obtain ⟨Ao42, co42, eo42⟩ := Kd.R_slice HO178.out
     (first | subst eo42 | (injection eo42 with f1_ f2_ f3_; have f4_ := f1_.symm; have f5_ := f3_.symm; clear f1_ f2_ f3_; subst f4_; subst f5_))
     refine norm_ (a' := ?_) ?_ ?_
     rotate_left
     ·simp only [putAll, Act.put, jaa, jab, jac]
      rfl
     refine one_ (i := 6) (N := some 29) #[true, true, true, true, true, true, true, false, false] rfl rfl (one_of HT_.out (by kernel_rfl)) (by decide) (fun K hK => ?_)
     refine Kd.R_append_rows_step k60 (w0 := w0) w0.heap.size (by rfl) (.tmp 26) (.tmp 28) 38 60 (.agg #[(.int .i64 0), (.int .i64 0), (.string ⟨#[]⟩)]) 32 rfl Try.underlying38 info60 rfl (by decide) (by omega) v174 y173 y176 _ _ _ (fun k_ => ((P0_0_ k_ ∨ P0_1_ k_) ∨ w.heap.size ≤ k_) ∧ some k_ ≠ (.slice Ao21 l0_0.length co21 : Value).ownBlock ∧ some k_ ≠ (.slice Ao42 y176.length co42 : Value).ownBlock ∧ k_ ≠ jaq) (fun _ => False) rfl rfl ?aO ?aR (fun _ _ h => h) (fun _ h => h.elim) ?aF ?aB ?aS ?aL ?_
     (case aR => repeat (first | exact (Kd.R_reads' HO178.out).2.2 | (with_reducible refine Kd.C_alloc ?_ _) | (with_reducible refine Kd.C_drewN ?_ _) | (with_reducible refine Kd.C_drew ?_)))
     (case aB => exact (by repeat (first | (with_reducible first | exact HB.out | apply jaj | apply jah | apply jai | refine jag ?_ jaw.out | refine jag ?_ jay.out | refine jag ?_ jba.out) | exact HB.out)))
     (case aF => exact (fun k_ hk => ⟨(.inr (Nat.le_trans (by first | exact HK.out.1 | exact (show Kept w _ (fun k_ => P0_0_ k_ ∨ P0_1_ k_) from by repeat (first | (with_reducible first | exact HK.out | apply Kept.alloc | apply Kept.drewN | apply Kept.drew | refine Kept.setCell ?_ (.inr jav.out) _ | refine Kept.setCell ?_ (.inr jax.out) _ | refine Kept.setCell ?_ (.inr jaz.out) _) | exact HK.out)).1) hk)), Kd.fresh' (Kd.R_lt (by (with_reducible repeat (first | apply Kd.R_alloc | apply Kd.R_drewN | apply Kd.R_drew)); exact HO0_0.out)) k_ hk, Kd.fresh' (Kd.R_lt (by (with_reducible repeat (first | apply Kd.R_alloc | apply Kd.R_drewN | apply Kd.R_drew)); exact HO178.out)) k_ hk, Kd.freshB (g := jaq) (o := .cells #[.int .i64 t165, .int .i64 t166, .string t167] 60 (0, 0)) (by (with_reducible repeat (first | refine jad ?_ _ | refine jaf ?_ | refine jae ?_ _)); exact jat.out) k_ hk⟩))
     (case aO => exact (by (with_reducible repeat (first | apply Kd.R_alloc | apply Kd.R_drewN | apply Kd.R_drew)); exact HO175.out))
     (case aS => exact (below_size (by repeat (first | (with_reducible first | exact HB.out | apply jaj | apply jah | apply jai | refine jag ?_ jaw.out | refine jag ?_ jay.out | refine jag ?_ jba.out) | exact HB.out))))
     (case aL => have := LMc20.out; omega)
     intro v180 w41 ho hb hg hat
     rw [← Ny179.out] at ho
     have n0_ := jao (Kd.R_after (ok := (fun k_ => ((P0_0_ k_ ∨ P0_1_ k_) ∨ w.heap.size ≤ k_) ∧ some k_ ≠ (.slice Ao42 y176.length co42 : Value).ownBlock ∧ k_ ≠ jaq)) (by (with_reducible repeat (first | apply Kd.R_alloc | apply Kd.R_drewN | apply Kd.R_drew)); exact Kd.R_mono HO0_0.out (fun _ hk => ⟨⟨hk.1, ⟨hk.2.2.1, hk.2.2.2⟩⟩, hk.2.1⟩)) hg hat)
     have n1_ := jao (Kd.R_over' (by (with_reducible repeat (first | apply Kd.R_alloc | apply Kd.R_drewN | apply Kd.R_drew)); exact HO0_1.out) (Kd.R_typed (by (with_reducible repeat (first | apply Kd.R_alloc | apply Kd.R_drewN | apply Kd.R_drew)); exact HO175.out)) (by decide) hg)
     have n2_ := jao (blk_grown (g := jar) (o := .cells #[.slice Ao21 l0_0.length co21, .slice Ao22 l0_1.length co22, .int .i64 a0_2, .int .i64 a0_3, .int .i64 a0_4] 41 (0, 0)) (by (with_reducible repeat (first | refine jad ?_ _ | refine jaf ?_ | refine jae ?_ _)); exact jap.out) hg (Kd.R_ne HO175.out jap.out (by decide)))
     have n3_ := jao (blk_grown (g := jau) (o := .cells #[.slice none 0 0, .slice none 0 0, .int .i64 0, .int .i64 0, .int .i64 0] 41 (0, 0)) (by (with_reducible repeat (first | refine jad ?_ _ | refine jaf ?_ | refine jae ?_ _)); exact jas.out) hg (Kd.R_ne HO175.out jas.out (by decide)))
     have n4_ := jao (blk_grown (g := jaq) (o := .cells #[.int .i64 t165, .int .i64 t166, .string t167] 60 (0, 0)) (by (with_reducible repeat (first | refine jad ?_ _ | refine jaf ?_ | refine jae ?_ _)); exact jat.out) hg (Kd.R_away HO175.out (fun _ hk => hk.2.2.2)))
     have n5_ := jao (Kd.R_after (ok := (fun k_ => ((P0_0_ k_ ∨ P0_1_ k_) ∨ w.heap.size ≤ k_) ∧ some k_ ≠ (.slice Ao21 l0_0.length co21 : Value).ownBlock ∧ k_ ≠ jaq)) (by (with_reducible repeat (first | apply Kd.R_alloc | apply Kd.R_drewN | apply Kd.R_drew)); exact Kd.R_mono HO178.out (fun _ hk => ⟨⟨hk.1, ⟨hk.2.1, hk.2.2.2⟩⟩, hk.2.2.1⟩)) hg hat)
     have n6_ := jao (hb)
     have n7_ := jao (Kept.of_grown (S := (fun k_ => P0_0_ k_ ∨ P0_1_ k_)) hg (by repeat (first | (with_reducible first | exact HK.out | apply Kept.alloc | apply Kept.drewN | apply Kept.drew | refine Kept.setCell ?_ (.inr jav.out) _ | refine Kept.setCell ?_ (.inr jax.out) _ | refine Kept.setCell ?_ (.inr jaz.out) _) | exact HK.out)) (fun k_ e_ => (HO175.out.1 k_ e_).1))
     have n8_ := jao (ho)
     clear HO0_0
     clear HO0_1
     clear jap
     clear jas
     clear jat
     clear HO178
     clear HB
     clear HK
     clear HO175
     have HO0_0 := n0_
     have HO0_1 := n1_
     have jap := n2_
     have jas := n3_
     have jat := n4_
     have HO178 := n5_
     have HB := n6_
     have HK := n7_
     have HO181 := n8_
     clear n0_ n1_ n2_ n3_ n4_ n5_ n6_ n7_ n8_
     clear ho hb hg hat
     obtain ⟨Ao43, co43, eo43⟩ := Kd.R_slice HO181.out
     (first | subst eo43 | (injection eo43 with f1_ f2_ f3_; have f4_ := f1_.symm; have f5_ := f3_.symm; clear f1_ f2_ f3_; subst f4_; subst f5_))
     refine hK.out _ _ ⟨(jak jap.out 0).trans rfl, (jak jap.out 1).trans rfl, (jak jap.out 2).trans rfl, (jak jap.out 3).trans rfl, (jak jap.out 4).trans rfl, (jak jat.out 0).trans rfl, (jak jat.out 1).trans rfl, (jak jat.out 2).trans rfl⟩ (fun hHeld => ?_)
     clear hK K
     refine norm_ (a' := ?_) ?_ ?_
     rotate_left
     ·show Act.put _ (some 29) _ = _
      simp only [Act.put, jaa, jab, jac, i64_w, i32_w]
      rfl
     refine pure_ (i := 7) (N := some 30) (v := ?_) (a' := ?_) #[true, true, true, true, true, true, true, true, false] rfl rfl (any_of HT_.out (by kernel_rfl)) (fun _ _ _ h => h) (Or.inl ⟨by rfl, ?_⟩) ?_ ?_
     rotate_left
     ·intro w'
      go_simp
      with_reducible rfl
     rotate_left
     ·simp only [Act.put, jaa, jab, jac, i64_w, i32_w]
      rfl
     refine last_ (i := 8) (N := none) #[true, true, true, true, true, true, true, true, true] rfl rfl (one_of HT_.out (by kernel_rfl)) (by decide) (fun K hK => ?_)
     have hs44 : w41.cell? ⟨jar, 0, none⟩ = some (.slice Ao21 l0_0.length co21) := (jak jap.out 0).trans rfl
     have hfs44 := jal jap.out 0
     have hns44_1 := jbd.out
     have hns44_2 := jbf.out
     have hms44_1 := jbe.out
     have hms44_2 := jbc.out
     refine skip_ (w1 := ?_) (by rfl) rfl ?_ ?_
     rotate_left
     ·go_simp
      rfl
     refine hK.out _ _ ?_
     clear hK K
     refine done_ (done_of HT_.out (by kernel_rfl)) ?_
     have jdr : w41.cell? ⟨jar, 0, none⟩ = some (.slice Ao21 l0_0.length co21) := (jak jap.out 0).trans rfl
     have jds : w41.cell? ⟨jar, 1, none⟩ = some (.slice Ao22 l0_1.length co22) := (jak jap.out 1).trans rfl
     have jdt : w41.cell? ⟨jar, 2, none⟩ = some (.int .i64 a0_2) := (jak jap.out 2).trans rfl
     have jdu : w41.cell? ⟨jar, 3, none⟩ = some (.int .i64 a0_3) := (jak jap.out 3).trans rfl
     have jdv : w41.cell? ⟨jar, 4, none⟩ = some (.int .i64 a0_4) := (jak jap.out 4).trans rfl
     have jdw := jal jap.out 0
     have jdx := jal jap.out 1
     have jdy := jal jap.out 2
     have jdz := jal jap.out 3
     have jea := jal jap.out 4
     have jeb : w41.cell? ⟨jau, 0, none⟩ = some (.slice none 0 0) := (jak jas.out 0).trans rfl
     have jec : w41.cell? ⟨jau, 1, none⟩ = some (.slice none 0 0) := (jak jas.out 1).trans rfl
     have jed : w41.cell? ⟨jau, 2, none⟩ = some (.int .i64 0) := (jak jas.out 2).trans rfl
     have jee : w41.cell? ⟨jau, 3, none⟩ = some (.int .i64 0) := (jak jas.out 3).trans rfl
     have jef : w41.cell? ⟨jau, 4, none⟩ = some (.int .i64 0) := (jak jas.out 4).trans rfl
     have jeg := jal jas.out 0
     have jeh := jal jas.out 1
     have jei := jal jas.out 2
     have jej := jal jas.out 3
     have jek := jal jas.out 4
     try go_wp2
     refine bodyPost_ret (results_ct rfl _ _ jau 41 #[.slice Ao43 y179.length co43, .slice Ao22 l0_1.length co22, .int .i64 (wrap64 (a0_2 + 1)), .int .i64 a0_3, .int .i64 a0_4] (0, 0) _ rfl (by (with_reducible repeat (first | refine jad ?_ _ | refine jaf ?_ | refine jae ?_ _)); refine blk_put (cs := #[.slice Ao43 y179.length co43, .slice Ao22 l0_1.length co22, .int .i64 (wrap64 (a0_2 + 1)), .int .i64 a0_3, .int .i64 0]) ?_ 4 _ rfl; (with_reducible repeat (first | refine jad ?_ _ | refine jaf ?_ | refine jae ?_ _)); refine blk_put (cs := #[.slice Ao43 y179.length co43, .slice Ao22 l0_1.length co22, .int .i64 (wrap64 (a0_2 + 1)), .int .i64 0, .int .i64 0]) ?_ 3 _ rfl; (with_reducible repeat (first | refine jad ?_ _ | refine jaf ?_ | refine jae ?_ _)); refine blk_put (cs := #[.slice Ao43 y179.length co43, .slice Ao22 l0_1.length co22, .int .i64 0, .int .i64 0, .int .i64 0]) ?_ 2 _ rfl; (with_reducible repeat (first | refine jad ?_ _ | refine jaf ?_ | refine jae ?_ _)); refine blk_put (cs := #[.slice Ao43 y179.length co43, .slice none 0 0, .int .i64 0, .int .i64 0, .int .i64 0]) ?_ 1 _ rfl; (with_reducible repeat (first | refine jad ?_ _ | refine jaf ?_ | refine jae ?_ _)); refine blk_put (cs := #[.slice none 0 0, .slice none 0 0, .int .i64 0, .int .i64 0, .int .i64 0]) ?_ 0 _ rfl; (with_reducible repeat (first | refine jad ?_ _ | refine jaf ?_ | refine jae ?_ _)); refine blk_far ?_ jbd.out _; (with_reducible repeat (first | refine jad ?_ _ | refine jaf ?_ | refine jae ?_ _)); refine blk_far ?_ jbd.out _; (with_reducible repeat (first | refine jad ?_ _ | refine jaf ?_ | refine jae ?_ _)); exact jas.out) Try.underlying41 rfl (by kernel_rfl)) rfl ?_
     exact ⟨_, _, by first | rfl | (simp [errW_none, errW_some] <;> rfl) | (simp [*, errW_none, errW_some] <;> rfl), by (with_reducible repeat (first | apply Kd.R_alloc | apply Kd.R_drewN | apply Kd.R_drew)); exact Kd.R_mono (Kd.R_far (p := ⟨jau, 4, none⟩) (Kd.R_far (p := ⟨jau, 3, none⟩) (Kd.R_far (p := ⟨jau, 2, none⟩) (Kd.R_far (p := ⟨jau, 1, none⟩) (Kd.R_far (p := ⟨jau, 0, none⟩) (Kd.R_far (p := ⟨jar, 2, none⟩) (Kd.R_far (p := ⟨jar, 0, none⟩) (Kd.R_types (Kd.R_types HO181.out jap.out (by decide)) jas.out (by decide)) (fun _ hk => hk.1.2) (.slice Ao43 y179.length co43)) (fun _ hk => hk.1.2) (.int .i64 (wrap64 (a0_2 + 1)))) (fun _ hk => hk.2) (.slice Ao43 y179.length co43)) (fun _ hk => hk.2) (.slice Ao22 l0_1.length co22)) (fun _ hk => hk.2) (.int .i64 (wrap64 (a0_2 + 1)))) (fun _ hk => hk.2) (.int .i64 a0_3)) (fun _ hk => hk.2) (.int .i64 a0_4)) (fun _ hk => hk.1.1.1), by (with_reducible repeat (first | apply Kd.R_alloc | apply Kd.R_drewN | apply Kd.R_drew)); exact Kd.R_mono (Kd.R_far (p := ⟨jau, 4, none⟩) (Kd.R_far (p := ⟨jau, 3, none⟩) (Kd.R_far (p := ⟨jau, 2, none⟩) (Kd.R_far (p := ⟨jau, 1, none⟩) (Kd.R_far (p := ⟨jau, 0, none⟩) (Kd.R_far (p := ⟨jar, 2, none⟩) (Kd.R_far (p := ⟨jar, 0, none⟩) (Kd.R_types (Kd.R_types HO0_1.out jap.out (by decide)) jas.out (by decide)) (fun _ hk => hk.1.2) (.slice Ao43 y179.length co43)) (fun _ hk => hk.1.2) (.int .i64 (wrap64 (a0_2 + 1)))) (fun _ hk => hk.2) (.slice Ao43 y179.length co43)) (fun _ hk => hk.2) (.slice Ao22 l0_1.length co22)) (fun _ hk => hk.2) (.int .i64 (wrap64 (a0_2 + 1)))) (fun _ hk => hk.2) (.int .i64 a0_3)) (fun _ hk => hk.2) (.int .i64 a0_4)) (fun _ hk => hk.1.1), by repeat (first | (with_reducible first | exact HB.out | apply jaj | apply jah | apply jai | refine jag ?_ jaw.out | refine jag ?_ jay.out | refine jag ?_ jba.out) | exact HB.out), by repeat (first | (with_reducible first | exact HK.out | apply Kept.alloc | apply Kept.drewN | apply Kept.drew | refine Kept.setCell ?_ (.inr jav.out) _ | refine Kept.setCell ?_ (.inr jax.out) _ | refine Kept.setCell ?_ (.inr jaz.out) _) | exact HK.out)⟩
    ·rw [if_neg c20] at H
     exact absurd H (by simp)
   ·rw [if_neg c19] at H
    exact absurd H (by simp)
 ·replace c4 := Bool.eq_false_iff.mpr c4
  subst c4
  have H1 : (some (l0_0, l0_1, a0_2, a0_3, a0_4, false)) = some (r1, r2, r3, r4, r5, r6) := by rw [if_neg (show ¬ (false = true) by decide)] at H; exact H
  clear H
  have H := H1
  clear H1
  simp only [Option.some.injEq, Prod.mk.injEq] at H
  obtain ⟨rfl, rfl, rfl, rfl, rfl, rfl⟩ := H
  obtain ⟨Ao47, co47, eo47⟩ := Kd.R_slice HO0_0.out
  subst eo47
  obtain ⟨Ao48, co48, eo48⟩ := Kd.R_slice HO0_1.out
  subst eo48
  go_enter Try.func31, Try.ntmps31
  go_wp2_with (first | ((with_reducible refine gate_dst (N := 2) rfl ?_); (try (refine gate_guard (by rfl) ?_; dsimp only)); refine box_event ?hg (N := 2) ?hd (cs := #[.slice Ao47 l0_0.length co47, .slice Ao48 l0_1.length co48, .int .i64 a0_2, .int .i64 a0_3, .int .i64 a0_4]) (t := 41) ?hr ?_; (case hd => rfl); (case hg => rfl); (case hr => first | (go_simp; done) | (go_simp; rfl)); intro jar hg w49 hbox hb; have n0_ := jao (Kd.R_below (by (with_reducible repeat (first | apply Kd.R_alloc | apply Kd.R_drewN | apply Kd.R_drew)); exact HO0_0.out) hb); have n1_ := jao (Kd.R_below (by (with_reducible repeat (first | apply Kd.R_alloc | apply Kd.R_drewN | apply Kd.R_drew)); exact HO0_1.out) hb); have n2_ := jao (Kept.below (S := (fun k_ => P0_0_ k_ ∨ P0_1_ k_)) (by repeat (first | (with_reducible first | exact HK.out | apply Kept.alloc | apply Kept.drewN | apply Kept.drew) | exact HK.out)) hb); have n3_ := jao (below_step (by repeat (first | (with_reducible first | exact HB.out | apply jaj | apply jah | apply jai) | exact HB.out)) hb); have n4_ := jao (hbox); have n5_ := jao ((by rw [hg]; exact (by first | exact HK.out.1 | exact (show Kept w _ (fun k_ => P0_0_ k_ ∨ P0_1_ k_) from by repeat (first | (with_reducible first | exact HK.out | apply Kept.alloc | apply Kept.drewN | apply Kept.drew) | exact HK.out)).1) : w.heap.size ≤ jar)); have n6_ := jao ((by rw [hg]; exact (below_size (by repeat (first | (with_reducible first | exact HB.out | apply jaj | apply jah | apply jai) | exact HB.out))) : w0.heap.size ≤ jar)); clear HO0_0; clear HO0_1; clear HK; clear HB; have HO0_0 := n0_; have HO0_1 := n1_; have HK := n2_; have HB := n3_; have jap := n4_; have jav := n5_; have jaw := n6_; clear n0_ n1_ n2_ n3_ n4_ n5_ n6_; clear hb hbox hg) | ((with_reducible refine gate_dst (N := 4) rfl ?_); (try (refine gate_guard (by rfl) ?_; dsimp only)); refine box_event ?hg (N := 4) ?hd (cs := #[.slice none 0 0, .slice none 0 0, .int .i64 0, .int .i64 0, .int .i64 0]) (t := 41) ?hr ?_; (case hd => rfl); (case hg => rfl); (case hr => first | (go_simp; done) | (go_simp; rfl)); intro jau hg w50 hbox hb; have n0_ := jao (Kd.R_below (by (with_reducible repeat (first | apply Kd.R_alloc | apply Kd.R_drewN | apply Kd.R_drew)); exact HO0_0.out) hb); have n1_ := jao (Kd.R_below (by (with_reducible repeat (first | apply Kd.R_alloc | apply Kd.R_drewN | apply Kd.R_drew)); exact HO0_1.out) hb); have n2_ := jao (blk_below (g := jar) (o := .cells #[.slice Ao47 l0_0.length co47, .slice Ao48 l0_1.length co48, .int .i64 a0_2, .int .i64 a0_3, .int .i64 a0_4] 41 (0, 0)) (by (with_reducible repeat (first | refine jad ?_ _ | refine jaf ?_ | refine jae ?_ _)); exact jap.out) hb); have n3_ := jao (Kept.below (S := (fun k_ => P0_0_ k_ ∨ P0_1_ k_)) (by repeat (first | (with_reducible first | exact HK.out | apply Kept.alloc | apply Kept.drewN | apply Kept.drew | refine Kept.setCell ?_ (.inr jav.out) _) | exact HK.out)) hb); have n4_ := jao (below_step (by repeat (first | (with_reducible first | exact HB.out | apply jaj | apply jah | apply jai | refine jag ?_ jaw.out) | exact HB.out)) hb); have n5_ := jao (hbox); have n6_ := jao ((by rw [hg]; exact (by first | exact HK.out.1 | exact (show Kept w _ (fun k_ => P0_0_ k_ ∨ P0_1_ k_) from by repeat (first | (with_reducible first | exact HK.out | apply Kept.alloc | apply Kept.drewN | apply Kept.drew | refine Kept.setCell ?_ (.inr jav.out) _) | exact HK.out)).1) : w.heap.size ≤ jau)); have n7_ := jao ((by rw [hg]; exact (below_size (by repeat (first | (with_reducible first | exact HB.out | apply jaj | apply jah | apply jai | refine jag ?_ jaw.out) | exact HB.out))) : w0.heap.size ≤ jau)); have n8_ := jao ((by rw [hg]; exact jam (blk_lt (g := jar) (o := .cells #[.slice Ao47 l0_0.length co47, .slice Ao48 l0_1.length co48, .int .i64 a0_2, .int .i64 a0_3, .int .i64 a0_4] 41 (0, 0)) (by (with_reducible repeat (first | refine jad ?_ _ | refine jaf ?_ | refine jae ?_ _)); exact jap.out)) : jar ≠ jau)); have n9_ := jao ((by rw [hg]; exact jan (blk_lt (g := jar) (o := .cells #[.slice Ao47 l0_0.length co47, .slice Ao48 l0_1.length co48, .int .i64 a0_2, .int .i64 a0_3, .int .i64 a0_4] 41 (0, 0)) (by (with_reducible repeat (first | refine jad ?_ _ | refine jaf ?_ | refine jae ?_ _)); exact jap.out)) : jau ≠ jar)); clear HO0_0; clear HO0_1; clear jap; clear HK; clear HB; have HO0_0 := n0_; have HO0_1 := n1_; have jap := n2_; have HK := n3_; have HB := n4_; have jas := n5_; have jax := n6_; have jay := n7_; have jbe := n8_; have jbd := n9_; clear n0_ n1_ n2_ n3_ n4_ n5_ n6_ n7_ n8_ n9_; clear hb hbox hg; have hnb51 := jbe.out; have hnc51 := jbd.out; have jel : w50.cell? ⟨jar, 0, none⟩ = some (.slice Ao47 l0_0.length co47) := (jak jap.out 0).trans rfl; have jem : w50.cell? ⟨jar, 1, none⟩ = some (.slice Ao48 l0_1.length co48) := (jak jap.out 1).trans rfl; have jen : w50.cell? ⟨jar, 2, none⟩ = some (.int .i64 a0_2) := (jak jap.out 2).trans rfl; have jeo : w50.cell? ⟨jar, 3, none⟩ = some (.int .i64 a0_3) := (jak jap.out 3).trans rfl; have jep : w50.cell? ⟨jar, 4, none⟩ = some (.int .i64 a0_4) := (jak jap.out 4).trans rfl; have jeq := jal jap.out 0; have jer := jal jap.out 1; have jes := jal jap.out 2; have jet := jal jap.out 3; have jeu := jal jap.out 4) | ((with_reducible refine gate_callee (f := 34) rfl ?_); refine goesL_ (some 11) rfl rfl Try.func34 (by kernel_rfl) rfl #[.agg #[.slice Ao47 l0_0.length co47, .slice Ao48 l0_1.length co48, .int .i64 a0_2, .int .i64 a0_3, .int .i64 a0_4], .int .i64 a1] rfl (by (try simp only [List.map_toArray, List.map_cons, List.map_nil]); first | done | rfl) ?_; (with_reducible refine (stowageref08_Wires_At.calls _ _ l0_0 _ _ l0_1 a0_2 a0_3 a0_4 a1 t165 t166 t167 false _ ?side1 ?side2 ?side3 ?side4 A3.out).mono ?_); (case side1 => repeat (first | exact (Kd.R_reads' HO0_0.out).2.2 | (with_reducible refine Kd.C_alloc ?_ _) | (with_reducible refine Kd.C_drewN ?_ _) | (with_reducible refine Kd.C_drew ?_))); (case side2 => exact (Kd.R_reads' HO0_0.out).2.1); (case side3 => repeat (first | exact (Kd.R_reads' HO0_1.out).2.2 | (with_reducible refine Kd.C_alloc ?_ _) | (with_reducible refine Kd.C_drewN ?_ _) | (with_reducible refine Kd.C_drew ?_))); (case side4 => exact (Kd.R_reads' HO0_1.out).2.1); rintro e w53 ⟨rfl, hb⟩; refine ⟨_, rfl, ?_⟩; have n0_ := jao (Kd.R_below (by (with_reducible repeat (first | apply Kd.R_alloc | apply Kd.R_drewN | apply Kd.R_drew)); exact HO0_0.out) hb); have n1_ := jao (Kd.R_below (by (with_reducible repeat (first | apply Kd.R_alloc | apply Kd.R_drewN | apply Kd.R_drew)); exact HO0_1.out) hb); have n2_ := jao (blk_below (g := jar) (o := .cells #[.slice Ao47 l0_0.length co47, .slice Ao48 l0_1.length co48, .int .i64 a0_2, .int .i64 a0_3, .int .i64 a0_4] 41 (0, 0)) (by (with_reducible repeat (first | refine jad ?_ _ | refine jaf ?_ | refine jae ?_ _)); exact jap.out) hb); have n3_ := jao (blk_below (g := jau) (o := .cells #[.slice none 0 0, .slice none 0 0, .int .i64 0, .int .i64 0, .int .i64 0] 41 (0, 0)) (by (with_reducible repeat (first | refine jad ?_ _ | refine jaf ?_ | refine jae ?_ _)); exact jas.out) hb); have n4_ := jao (Kept.below (S := (fun k_ => P0_0_ k_ ∨ P0_1_ k_)) (by repeat (first | (with_reducible first | exact HK.out | apply Kept.alloc | apply Kept.drewN | apply Kept.drew | refine Kept.setCell ?_ (.inr jav.out) _ | refine Kept.setCell ?_ (.inr jax.out) _) | exact HK.out)) hb); have n5_ := jao (below_step (by repeat (first | (with_reducible first | exact HB.out | apply jaj | apply jah | apply jai | refine jag ?_ jaw.out | refine jag ?_ jay.out) | exact HB.out)) hb); clear HO0_0; clear HO0_1; clear jap; clear jas; clear HK; clear HB; have HO0_0 := n0_; have HO0_1 := n1_; have jap := n2_; have jas := n3_; have HK := n4_; have HB := n5_; clear n0_ n1_ n2_ n3_ n4_ n5_; (try clear hb); (try clear hk); (try clear hi)) | ((with_reducible refine gate_dst (N := 6) rfl ?_); (try (refine gate_guard (by rfl) ?_; dsimp only)); refine box_event ?hg (N := 6) ?hd (cs := #[.int .i64 0, .int .i64 0, .string (⟨#[]⟩ : ByteArray)]) (t := 60) ?hr ?_; (case hd => rfl); (case hg => rfl); (case hr => first | (go_simp; done) | (go_simp; rfl)); intro jaq hg w54 hbox hb; have n0_ := jao (Kd.R_below (Kd.R_elderB (by (with_reducible repeat (first | apply Kd.R_alloc | apply Kd.R_drewN | apply Kd.R_drew)); exact HO0_0.out) jaq (Nat.le_of_eq hg.symm)) hb); have n1_ := jao (Kd.R_below (by (with_reducible repeat (first | apply Kd.R_alloc | apply Kd.R_drewN | apply Kd.R_drew)); exact HO0_1.out) hb); have n2_ := jao (blk_below (g := jar) (o := .cells #[.slice Ao47 l0_0.length co47, .slice Ao48 l0_1.length co48, .int .i64 a0_2, .int .i64 a0_3, .int .i64 a0_4] 41 (0, 0)) (by (with_reducible repeat (first | refine jad ?_ _ | refine jaf ?_ | refine jae ?_ _)); exact jap.out) hb); have n3_ := jao (blk_below (g := jau) (o := .cells #[.slice none 0 0, .slice none 0 0, .int .i64 0, .int .i64 0, .int .i64 0] 41 (0, 0)) (by (with_reducible repeat (first | refine jad ?_ _ | refine jaf ?_ | refine jae ?_ _)); exact jas.out) hb); have n4_ := jao (Kept.below (S := (fun k_ => P0_0_ k_ ∨ P0_1_ k_)) (by repeat (first | (with_reducible first | exact HK.out | apply Kept.alloc | apply Kept.drewN | apply Kept.drew | refine Kept.setCell ?_ (.inr jav.out) _ | refine Kept.setCell ?_ (.inr jax.out) _) | exact HK.out)) hb); have n5_ := jao (below_step (by repeat (first | (with_reducible first | exact HB.out | apply jaj | apply jah | apply jai | refine jag ?_ jaw.out | refine jag ?_ jay.out) | exact HB.out)) hb); have n6_ := jao (hbox); have n7_ := jao ((by rw [hg]; exact (by first | exact HK.out.1 | exact (show Kept w _ (fun k_ => P0_0_ k_ ∨ P0_1_ k_) from by repeat (first | (with_reducible first | exact HK.out | apply Kept.alloc | apply Kept.drewN | apply Kept.drew | refine Kept.setCell ?_ (.inr jav.out) _ | refine Kept.setCell ?_ (.inr jax.out) _) | exact HK.out)).1) : w.heap.size ≤ jaq)); have n8_ := jao ((by rw [hg]; exact (below_size (by repeat (first | (with_reducible first | exact HB.out | apply jaj | apply jah | apply jai | refine jag ?_ jaw.out | refine jag ?_ jay.out) | exact HB.out))) : w0.heap.size ≤ jaq)); have n9_ := jao ((by rw [hg]; exact jam (blk_lt (g := jar) (o := .cells #[.slice Ao47 l0_0.length co47, .slice Ao48 l0_1.length co48, .int .i64 a0_2, .int .i64 a0_3, .int .i64 a0_4] 41 (0, 0)) (by (with_reducible repeat (first | refine jad ?_ _ | refine jaf ?_ | refine jae ?_ _)); exact jap.out)) : jar ≠ jaq)); have n10_ := jao ((by rw [hg]; exact jan (blk_lt (g := jar) (o := .cells #[.slice Ao47 l0_0.length co47, .slice Ao48 l0_1.length co48, .int .i64 a0_2, .int .i64 a0_3, .int .i64 a0_4] 41 (0, 0)) (by (with_reducible repeat (first | refine jad ?_ _ | refine jaf ?_ | refine jae ?_ _)); exact jap.out)) : jaq ≠ jar)); have n11_ := jao ((by rw [hg]; exact jam (blk_lt (g := jau) (o := .cells #[.slice none 0 0, .slice none 0 0, .int .i64 0, .int .i64 0, .int .i64 0] 41 (0, 0)) (by (with_reducible repeat (first | refine jad ?_ _ | refine jaf ?_ | refine jae ?_ _)); exact jas.out)) : jau ≠ jaq)); have n12_ := jao ((by rw [hg]; exact jan (blk_lt (g := jau) (o := .cells #[.slice none 0 0, .slice none 0 0, .int .i64 0, .int .i64 0, .int .i64 0] 41 (0, 0)) (by (with_reducible repeat (first | refine jad ?_ _ | refine jaf ?_ | refine jae ?_ _)); exact jas.out)) : jaq ≠ jau)); clear HO0_0; clear HO0_1; clear jap; clear jas; clear HK; clear HB; have HO0_0 := n0_; have HO0_1 := n1_; have jap := n2_; have jas := n3_; have HK := n4_; have HB := n5_; have jat := n6_; have jaz := n7_; have jba := n8_; have jbc := n9_; have jbf := n10_; have jbb := n11_; have jbg := n12_; clear n0_ n1_ n2_ n3_ n4_ n5_ n6_ n7_ n8_ n9_ n10_ n11_ n12_; clear hb hbox hg; have hnb55 := jbf.out; have hnc55 := jbc.out; have hnb56 := jbg.out; have hnc56 := jbb.out; have jev : w54.cell? ⟨jaq, 0, none⟩ = some (.int .i64 0) := (jak jat.out 0).trans rfl; have jew : w54.cell? ⟨jaq, 1, none⟩ = some (.int .i64 0) := (jak jat.out 1).trans rfl; have jex : w54.cell? ⟨jaq, 2, none⟩ = some (.string (⟨#[]⟩ : ByteArray)) := (jak jat.out 2).trans rfl; have jey := jal jat.out 0; have jez := jal jat.out 1; have jfa := jal jat.out 2; have jfb : w54.cell? ⟨jar, 0, none⟩ = some (.slice Ao47 l0_0.length co47) := (jak jap.out 0).trans rfl; have jfc : w54.cell? ⟨jar, 1, none⟩ = some (.slice Ao48 l0_1.length co48) := (jak jap.out 1).trans rfl; have jfd : w54.cell? ⟨jar, 2, none⟩ = some (.int .i64 a0_2) := (jak jap.out 2).trans rfl; have jfe : w54.cell? ⟨jar, 3, none⟩ = some (.int .i64 a0_3) := (jak jap.out 3).trans rfl; have jff : w54.cell? ⟨jar, 4, none⟩ = some (.int .i64 a0_4) := (jak jap.out 4).trans rfl; have jfg := jal jap.out 0; have jfh := jal jap.out 1; have jfi := jal jap.out 2; have jfj := jal jap.out 3; have jfk := jal jap.out 4; have jfl : w54.cell? ⟨jau, 0, none⟩ = some (.slice none 0 0) := (jak jas.out 0).trans rfl; have jfm : w54.cell? ⟨jau, 1, none⟩ = some (.slice none 0 0) := (jak jas.out 1).trans rfl; have jfn : w54.cell? ⟨jau, 2, none⟩ = some (.int .i64 0) := (jak jas.out 2).trans rfl; have jfo : w54.cell? ⟨jau, 3, none⟩ = some (.int .i64 0) := (jak jas.out 3).trans rfl; have jfp : w54.cell? ⟨jau, 4, none⟩ = some (.int .i64 0) := (jak jas.out 4).trans rfl; have jfq := jal jas.out 0; have jfr := jal jas.out 1; have jfs := jal jas.out 2; have jft := jal jas.out 3; have jfu := jal jas.out 4))
  refine bodyPost_ret (results_ct rfl _ _ jau 41 #[.slice Ao47 l0_0.length co47, .slice Ao48 l0_1.length co48, .int .i64 a0_2, .int .i64 a0_3, .int .i64 a0_4] (0, 0) _ rfl (by (with_reducible repeat (first | refine jad ?_ _ | refine jaf ?_ | refine jae ?_ _)); refine blk_put (cs := #[.slice Ao47 l0_0.length co47, .slice Ao48 l0_1.length co48, .int .i64 a0_2, .int .i64 a0_3, .int .i64 0]) ?_ 4 _ rfl; (with_reducible repeat (first | refine jad ?_ _ | refine jaf ?_ | refine jae ?_ _)); refine blk_put (cs := #[.slice Ao47 l0_0.length co47, .slice Ao48 l0_1.length co48, .int .i64 a0_2, .int .i64 0, .int .i64 0]) ?_ 3 _ rfl; (with_reducible repeat (first | refine jad ?_ _ | refine jaf ?_ | refine jae ?_ _)); refine blk_put (cs := #[.slice Ao47 l0_0.length co47, .slice Ao48 l0_1.length co48, .int .i64 0, .int .i64 0, .int .i64 0]) ?_ 2 _ rfl; (with_reducible repeat (first | refine jad ?_ _ | refine jaf ?_ | refine jae ?_ _)); refine blk_put (cs := #[.slice Ao47 l0_0.length co47, .slice none 0 0, .int .i64 0, .int .i64 0, .int .i64 0]) ?_ 1 _ rfl; (with_reducible repeat (first | refine jad ?_ _ | refine jaf ?_ | refine jae ?_ _)); refine blk_put (cs := #[.slice none 0 0, .slice none 0 0, .int .i64 0, .int .i64 0, .int .i64 0]) ?_ 0 _ rfl; (with_reducible repeat (first | refine jad ?_ _ | refine jaf ?_ | refine jae ?_ _)); refine blk_far ?_ jbb.out _; (with_reducible repeat (first | refine jad ?_ _ | refine jaf ?_ | refine jae ?_ _)); refine blk_far ?_ jbb.out _; (with_reducible repeat (first | refine jad ?_ _ | refine jaf ?_ | refine jae ?_ _)); refine blk_far ?_ jbb.out _; (with_reducible repeat (first | refine jad ?_ _ | refine jaf ?_ | refine jae ?_ _)); exact jas.out) Try.underlying41 rfl (by kernel_rfl)) rfl ?_
  exact ⟨_, _, by first | rfl | (simp [errW_none, errW_some] <;> rfl) | (simp [*, errW_none, errW_some] <;> rfl), by (with_reducible repeat (first | apply Kd.R_alloc | apply Kd.R_drewN | apply Kd.R_drew)); exact Kd.R_mono (Kd.R_far (p := ⟨jau, 4, none⟩) (Kd.R_far (p := ⟨jau, 3, none⟩) (Kd.R_far (p := ⟨jau, 2, none⟩) (Kd.R_far (p := ⟨jau, 1, none⟩) (Kd.R_far (p := ⟨jau, 0, none⟩) (Kd.R_far (p := ⟨jaq, 2, none⟩) (Kd.R_far (p := ⟨jaq, 1, none⟩) (Kd.R_far (p := ⟨jaq, 0, none⟩) (Kd.R_types (Kd.R_mono HO0_0.out (fun k_ hk => (⟨hk, hk.2⟩ : _ ∧ k_ ≠ jaq))) jas.out (by decide)) (fun _ hk => hk.1.2) (.int .i64 t165)) (fun _ hk => hk.1.2) (.int .i64 t166)) (fun _ hk => hk.1.2) (.string t167)) (fun _ hk => hk.2) (.slice Ao47 l0_0.length co47)) (fun _ hk => hk.2) (.slice Ao48 l0_1.length co48)) (fun _ hk => hk.2) (.int .i64 a0_2)) (fun _ hk => hk.2) (.int .i64 a0_3)) (fun _ hk => hk.2) (.int .i64 a0_4)) (fun _ hk => hk.1.1.1), by (with_reducible repeat (first | apply Kd.R_alloc | apply Kd.R_drewN | apply Kd.R_drew)); exact Kd.R_mono (Kd.R_far (p := ⟨jau, 4, none⟩) (Kd.R_far (p := ⟨jau, 3, none⟩) (Kd.R_far (p := ⟨jau, 2, none⟩) (Kd.R_far (p := ⟨jau, 1, none⟩) (Kd.R_far (p := ⟨jau, 0, none⟩) (Kd.R_far (p := ⟨jaq, 2, none⟩) (Kd.R_far (p := ⟨jaq, 1, none⟩) (Kd.R_far (p := ⟨jaq, 0, none⟩) (Kd.R_types (Kd.R_types HO0_1.out jat.out (by decide)) jas.out (by decide)) (fun _ hk => hk.1.2) (.int .i64 t165)) (fun _ hk => hk.1.2) (.int .i64 t166)) (fun _ hk => hk.1.2) (.string t167)) (fun _ hk => hk.2) (.slice Ao47 l0_0.length co47)) (fun _ hk => hk.2) (.slice Ao48 l0_1.length co48)) (fun _ hk => hk.2) (.int .i64 a0_2)) (fun _ hk => hk.2) (.int .i64 a0_3)) (fun _ hk => hk.2) (.int .i64 a0_4)) (fun _ hk => hk.1.1), by repeat (first | (with_reducible first | exact HB.out | apply jaj | apply jah | apply jai | refine jag ?_ jaw.out | refine jag ?_ jay.out | refine jag ?_ jba.out) | exact HB.out), by repeat (first | (with_reducible first | exact HK.out | apply Kept.alloc | apply Kept.drewN | apply Kept.drew | refine Kept.setCell ?_ (.inr jav.out) _ | refine Kept.setCell ?_ (.inr jax.out) _ | refine Kept.setCell ?_ (.inr jaz.out) _) | exact HK.out)⟩

end Go.Proofs.Ytodkackgdchocaa.Q
