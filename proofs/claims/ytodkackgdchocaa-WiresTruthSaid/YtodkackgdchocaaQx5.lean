/- Written by a program of this session (wip/patch_print.py over the kit's print): functions of the given program as plain Lean functions, and that each call does what its function says, under no further conditions. -/
import Derived.Test.YtodkackgdchocaaQx0
import Derived.Test.YtodkackgdchocaaQx1
namespace Go.Proofs.Ytodkackgdchocaa.Q
open Go.RowKit Go.Proofs.YtodkackgdchocaaW.PrintWords Go.Proofs.YtodkackgdchocaaW.PrintLast Go.Proofs.YtodkackgdchocaaW.PrintMore
attribute [local go_sem] max2_int min2_int max_two min_two max_three min_three max_four min_four   -- for this text's walks alone
set_option linter.unusedVariables false
set_option linter.unusedSimpArgs false

attribute [local go_sem] xor_ones_u8 xor_ones_u16 xor_ones_u32 xor_ones_u64 cell_twice frozen_twice
abbrev kaa := @List.setIfInBounds_toArray
abbrev kab := @List.set_cons_zero
abbrev kac := @List.set_cons_succ
abbrev kad := @World.block_lt_of_cell?
abbrev kae := @blk_drewN
abbrev kaf := @blk_alloc
abbrev kag := @blk_drew
abbrev kah := @below_set
abbrev kai := @pw_below_drewN
abbrev kaj := @below_drew1
abbrev kak := @below_alloc
abbrev kal := @blk_cell
abbrev kam := @blk_frozen
abbrev kan := @Aside0.mk
abbrev ksq0 : Array Bool := #[false, false, false, false, false, false, false, false, false, false, false, false, false, false, false]
abbrev ksq1 : Array Bool := #[false, true, false, false, false, false, false, false, false, false, false, false, false, false, false]
abbrev ksq2 : Array Bool := #[false, true, false, true, false, false, false, false, false, false, false, false, false, false, false]
abbrev ksq3 : Array Bool := #[false, true, false, true, false, false, false, true, false, false, false, false, false, false, false]
abbrev ksq4 : Array Bool := #[false, true, false, true, false, false, false, true, false, true, false, false, false, false, false]
abbrev ksq5 : Array Bool := #[true, true, false, true, false, false, false, true, false, true, false, false, false, false, false]
abbrev ksq6 : Array Bool := #[true, true, true, true, false, false, false, true, false, true, false, false, false, false, false]
abbrev ksq7 : Array Bool := #[true, true, true, true, true, false, false, true, false, true, false, false, false, false, false]
abbrev ksq8 : Array Bool := #[true, true, true, true, true, true, false, true, false, true, false, false, false, false, false]
abbrev ksq9 : Array Bool := #[true, true, true, true, true, true, true, true, false, true, false, false, false, false, false]
abbrev ksq10 : Array Bool := #[true, true, true, true, true, true, true, true, true, true, false, false, false, false, false]
abbrev ksq11 : Array Bool := #[true, true, true, true, true, true, true, true, true, true, true, false, false, false, false]
abbrev ksq12 : Array Bool := #[true, true, true, true, true, true, true, true, true, true, true, true, false, false, false]
abbrev ksq13 : Array Bool := #[true, true, true, true, true, true, true, true, true, true, true, true, true, false, false]
abbrev ksq14 : Array Bool := #[true, true, true, true, true, true, true, true, true, true, true, true, true, true, false]
abbrev ksq15 : Array Bool := #[true, true, true, true, true, true, true, true, true, true, true, true, true, true, true]
/-! ### stowageref08_Wires_Cut: function 32 -/
mutual
def stowageref08_Wires_Cut.j0 : Nat → Int → Int → Bool → List (S60) → List (S71) → Int → Int → Int → Option ((List (S60)) × (List (S71)) × Int × Int × Int × Int)
 | 0, _, _, _, _, _, _, _, _ => none
 | k + 1, x1, x2, x23, kau, kba, kbb, kbc, kbd => if x23 = true then (some (kau, kba, kbb, kbc, kbd, 0)) else ((some (([] : List (S71)) : List (S71))).bind fun y186 => (if y186.length + kba.length < 8796093022208 then ((some (y186 ++ kba : List (S71))).bind fun y189 => (if y189.length < 8796093022208 then (stowageref08_Wires_Cut.l0 k ([] : List (S60)) 0 kau (y189 ++ [(⟨x1, x2⟩ : S71)]) kbb kbc kbd) else (none))) else (none)))
def stowageref08_Wires_Cut.l0 : Nat → List (S60) → Int → List (S60) → List (S71) → Int → Int → Int → Option ((List (S60)) × (List (S71)) × Int × Int × Int × Int)
 | 0, _, _, _, _, _, _, _ => none
 | k + 1, x8, x9, kau, kba, kbb, kbc, kbd => if x9 < (kau.length : Int) then (if 0 ≤ x9 then ((stowageref08_Wires_IsCut.f k kau kba kbb kbc kbd ((rd_T60 kau x9).f0) ((rd_T60 kau x9).f1)).bind fun t197 => (if t197 = true then (stowageref08_Wires_Cut.l0 k x8 (wrap64 (x9 + 1)) kau kba kbb kbc kbd) else (if x8.length < 4398046511104 then (stowageref08_Wires_Cut.l0 k (x8 ++ [(⟨(rd_T60 kau x9).f0, (rd_T60 kau x9).f1, (rd_T60 kau x9).f2⟩ : S60)]) (wrap64 (x9 + 1)) kau kba kbb kbc kbd) else (none)))) else (none)) else (some (x8, kba, kbb, kbc, wrap64 (kbd + (wrap64 ((kau.length : Int) - (x8.length : Int)))), wrap64 ((kau.length : Int) - (x8.length : Int))))
end
def stowageref08_Wires_Cut.f (k : Nat) (l0_0 : List (S60)) (l0_1 : List (S71)) (a0_2 : Int) (a0_3 : Int) (a0_4 : Int) (a1 : Int) (a2 : Int) : Option ((List (S60)) × (List (S71)) × Int × Int × Int × Int) := (stowageref08_Node.f a1).bind fun t184 => (if t184 = true then ((stowageref08_Node.f a2).bind fun t185 => (if t185 = true then (stowageref08_Wires_Cut.j0 k a1 a2 (a1 == a2) l0_0 l0_1 a0_2 a0_3 a0_4) else (stowageref08_Wires_Cut.j0 k a1 a2 true l0_0 l0_1 a0_2 a0_3 a0_4))) else (stowageref08_Wires_Cut.j0 k a1 a2 true l0_0 l0_1 a0_2 a0_3 a0_4))
theorem stowageref08_Wires_Cut.mono_l : ∀ k, (∀ y0 y1 y2 y3 y4 y5 y6 y7, LeO (stowageref08_Wires_Cut.j0 k y0 y1 y2 y3 y4 y5 y6 y7) (stowageref08_Wires_Cut.j0 (k + 1) y0 y1 y2 y3 y4 y5 y6 y7)) ∧ (∀ y0 y1 y2 y3 y4 y5 y6, LeO (stowageref08_Wires_Cut.l0 k y0 y1 y2 y3 y4 y5 y6) (stowageref08_Wires_Cut.l0 (k + 1) y0 y1 y2 y3 y4 y5 y6))
 | 0 => ⟨fun _ _ _ _ _ _ _ _ r h => by simp [stowageref08_Wires_Cut.j0] at h, fun _ _ _ _ _ _ _ r h => by simp [stowageref08_Wires_Cut.l0] at h⟩
 | k + 1 => by
  obtain ⟨ih0, ih1⟩ := stowageref08_Wires_Cut.mono_l k
  refine ⟨?_, ?_⟩
  ·intro y0 y1 y2 y3 y4 y5 y6 y7
   unfold stowageref08_Wires_Cut.j0
   repeat' first
   | (with_reducible exact ih0 _ _ _ _ _ _ _ _)
   | (with_reducible exact ih1 _ _ _ _ _ _ _)
   | (with_reducible exact stowageref08_Wires_IsCut.mono _ _ _ _ _ _ _ _)
   | (with_reducible exact LeO.refl _)
   | (with_reducible exact LeO.none _)
   | (with_reducible refine LeO.ite ?_ ?_)
   | (with_reducible refine LeO.bind ?_ (fun _ => ?_))
   | exact ih0 _ _ _ _ _ _ _ _
   | exact ih1 _ _ _ _ _ _ _
   | exact stowageref08_Wires_IsCut.mono _ _ _ _ _ _ _ _
   | exact LeO.none _
   | refine LeO.ite ?_ ?_
   | refine LeO.bind ?_ (fun _ => ?_)
  ·intro y0 y1 y2 y3 y4 y5 y6
   unfold stowageref08_Wires_Cut.l0
   repeat' first
   | (with_reducible exact ih0 _ _ _ _ _ _ _ _)
   | (with_reducible exact ih1 _ _ _ _ _ _ _)
   | (with_reducible exact stowageref08_Wires_IsCut.mono _ _ _ _ _ _ _ _)
   | (with_reducible exact LeO.refl _)
   | (with_reducible exact LeO.none _)
   | (with_reducible refine LeO.ite ?_ ?_)
   | (with_reducible refine LeO.bind ?_ (fun _ => ?_))
   | exact ih0 _ _ _ _ _ _ _ _
   | exact ih1 _ _ _ _ _ _ _
   | exact stowageref08_Wires_IsCut.mono _ _ _ _ _ _ _ _
   | exact LeO.none _
   | refine LeO.ite ?_ ?_
   | refine LeO.bind ?_ (fun _ => ?_)
theorem stowageref08_Wires_Cut.mono : ∀ a0 a1 a2 a3 a4 a5 a6 k, LeO (stowageref08_Wires_Cut.f k a0 a1 a2 a3 a4 a5 a6) (stowageref08_Wires_Cut.f (k + 1) a0 a1 a2 a3 a4 a5 a6) := by
 intro a0 a1 a2 a3 a4 a5 a6 k
 obtain ⟨ih0, ih1⟩ := stowageref08_Wires_Cut.mono_l k
 unfold stowageref08_Wires_Cut.f
 repeat' first
   | (with_reducible exact ih0 _ _ _ _ _ _ _ _)
   | (with_reducible exact ih1 _ _ _ _ _ _ _)
   | (with_reducible exact stowageref08_Wires_IsCut.mono _ _ _ _ _ _ _ _)
   | (with_reducible exact LeO.refl _)
   | (with_reducible exact LeO.none _)
   | (with_reducible refine LeO.ite ?_ ?_)
   | (with_reducible refine LeO.bind ?_ (fun _ => ?_))
   | exact ih0 _ _ _ _ _ _ _ _
   | exact ih1 _ _ _ _ _ _ _
   | exact stowageref08_Wires_IsCut.mono _ _ _ _ _ _ _ _
   | exact LeO.none _
   | refine LeO.ite ?_ ?_
   | refine LeO.bind ?_ (fun _ => ?_)
def stowageref08_Wires_Cut.T8 : Bool × List (List Nat × List Nat) := (true, [([], []), ([], []), ([1], [1]), ([], []), ([2, 3], [2, 3]), ([4], [4]), ([5], [5]), ([], []), ([7], [7]), ([], []), ([8, 9], [8, 9]), ([10], [10]), ([11], [11]), ([0, 6, 12], [0, 6, 12]), ([13], [13])])
def stowageref08_Wires_Cut.B8 : List Nat := [0, 0, 2, 0, 14, 30, 62, 0, 128, 0, 896, 1920, 3968, 8191, 16383]
theorem stowageref08_Wires_Cut.tab8 : rtab .any (opsOf Try.f32 8) = stowageref08_Wires_Cut.T8 := by kernel_rfl
theorem stowageref08_Wires_Cut.bits8 : waitsOk stowageref08_Wires_Cut.T8.2 stowageref08_Wires_Cut.B8 = true := by kernel_rfl
set_option maxHeartbeats 8000000 in
set_option maxRecDepth 100000 in
theorem stowageref08_Wires_Cut.calls (k : Nat) (P0_0_ : Nat → Prop) (u9000_ : Value) (l0_0 : List (S60)) (P0_1_ : Nat → Prop) (u9001_ : Value) (l0_1 : List (S71)) (a0_2 : Int) (a0_3 : Int) (a0_4 : Int) (a1 : Int) (a2 : Int) (r1 : List (S60)) (r2 : List (S71)) (r3 : Int) (r4 : Int) (r5 : Int) (r6 : Int) (w0 w : World) (hB : Below w0.heap.size w0 w) (ho0_0 : Kd.R k60 60 w w0.heap.size P0_0_ u9000_ l0_0) (ho0_1 : Kd.R k71 71 w w0.heap.size P0_1_ u9001_ l0_1) (h : f k l0_0 l0_1 a0_2 a0_3 a0_4 a1 a2 = some (r1, r2, r3, r4, r5, r6)) :
  Calls Try.prog 32 #[.agg #[u9000_, u9001_, .int .i64 a0_2, .int .i64 a0_3, .int .i64 a0_4], .int .i64 a1, .int .i64 a2] w fun e w' => ∃ v0_ v1_ : Value, e = .returned (.tuple #[.agg #[v0_, v1_, .int .i64 r3, .int .i64 r4, .int .i64 r5], .int .i64 r6]) ∧ Kd.R k60 60 w' w0.heap.size (fun k_ => ((P0_0_ k_ ∨ P0_1_ k_) ∨ w.heap.size ≤ k_)) v0_ r1 ∧ Kd.R k71 71 w' w0.heap.size (fun k_ => ((P0_0_ k_ ∨ P0_1_ k_) ∨ w.heap.size ≤ k_)) v1_ r2 ∧ Below w0.heap.size w0 w' ∧ Kept w w' (fun k_ => P0_0_ k_ ∨ P0_1_ k_) := by
 have hu41 := Try.underlying41
 have hu71 := Try.underlying71
 have hu60 := Try.underlying60
 have HO0_0 := kan (show Kd.R k60 60 w w0.heap.size (fun k_ => ((P0_0_ k_ ∨ P0_1_ k_) ∨ w.heap.size ≤ k_)) u9000_ l0_0 from Kd.R_mono ho0_0 (fun k_ hk => (.inl (.inl hk))))
 have HO0_1 := kan (show Kd.R k71 71 w w0.heap.size (fun k_ => ((P0_0_ k_ ∨ P0_1_ k_) ∨ w.heap.size ≤ k_)) u9001_ l0_1 from Kd.R_mono ho0_1 (fun k_ hk => (.inl (.inr hk))))
 have HK := kan (Kept.refl w (fun k_ => P0_0_ k_ ∨ P0_1_ k_))
 have HW0 := kan hB.size
 have HB := kan hB
 clear hB
 have H : ((stowageref08_Node.f a1).bind fun t184 => (if t184 = true then ((stowageref08_Node.f a2).bind fun t185 => (if t185 = true then (j0 k a1 a2 (a1 == a2) l0_0 l0_1 a0_2 a0_3 a0_4) else (j0 k a1 a2 true l0_0 l0_1 a0_2 a0_3 a0_4))) else (j0 k a1 a2 true l0_0 l0_1 a0_2 a0_3 a0_4))) = some (r1, r2, r3, r4, r5, r6) := h
 clear h
 have HC4 := kan H
 clear H
 obtain ⟨Ao5, co5, eo5⟩ := Kd.R_slice HO0_0.out
 subst eo5
 obtain ⟨Ao6, co6, eo6⟩ := Kd.R_slice HO0_1.out
 subst eo6
 go_enter Try.func32, Try.ntmps32
 go_upto_region 1 with (first | ((with_reducible refine gate_dst (N := 3) rfl ?_); refine box_event ?hg (N := 3) ?hd (cs := #[.slice Ao5 l0_0.length co5, .slice Ao6 l0_1.length co6, .int .i64 a0_2, .int .i64 a0_3, .int .i64 a0_4]) (t := 41) ?hr ?_; (case hd => rfl); (case hg => rfl); (case hr => first | (go_simp; done) | (go_simp; rfl)); intro kaq hg w7 hbox hb; have n0_ := kan (Kd.R_below (by (with_reducible repeat (first | apply Kd.R_alloc | apply Kd.R_drewN | apply Kd.R_drew)); exact HO0_0.out) hb); have n1_ := kan (Kd.R_below (by (with_reducible repeat (first | apply Kd.R_alloc | apply Kd.R_drewN | apply Kd.R_drew)); exact HO0_1.out) hb); have n2_ := kan (Kept.below (S := (fun k_ => P0_0_ k_ ∨ P0_1_ k_)) (by repeat (first | (with_reducible first | exact HK.out | apply Kept.alloc | apply Kept.drewN | apply Kept.drew) | exact HK.out)) hb); have n3_ := kan (below_step (by repeat (first | (with_reducible first | exact HB.out | apply kak | apply kai | apply kaj) | exact HB.out)) hb); have n4_ := kan (hbox); have n5_ := kan ((by rw [hg]; exact (by first | exact HK.out.1 | exact (show Kept w _ (fun k_ => P0_0_ k_ ∨ P0_1_ k_) from by repeat (first | (with_reducible first | exact HK.out | apply Kept.alloc | apply Kept.drewN | apply Kept.drew) | exact HK.out)).1) : w.heap.size ≤ kaq)); have n6_ := kan ((by rw [hg]; exact (below_size (by repeat (first | (with_reducible first | exact HB.out | apply kak | apply kai | apply kaj) | exact HB.out))) : w0.heap.size ≤ kaq)); clear HO0_0; clear HO0_1; clear HK; clear HB; have HO0_0 := n0_; have HO0_1 := n1_; have HK := n2_; have HB := n3_; have kao := n4_; have kav := n5_; have kaw := n6_; clear n0_ n1_ n2_ n3_ n4_ n5_ n6_; clear hb hbox hg) | ((with_reducible refine gate_dst (N := 6) rfl ?_); refine box_event ?hg (N := 6) ?hd (cs := #[.slice none 0 0, .slice none 0 0, .int .i64 0, .int .i64 0, .int .i64 0]) (t := 41) ?hr ?_; (case hd => rfl); (case hg => rfl); (case hr => first | (go_simp; done) | (go_simp; rfl)); intro kas hg w8 hbox hb; have n0_ := kan (Kd.R_below (by (with_reducible repeat (first | apply Kd.R_alloc | apply Kd.R_drewN | apply Kd.R_drew)); exact HO0_0.out) hb); have n1_ := kan (Kd.R_below (by (with_reducible repeat (first | apply Kd.R_alloc | apply Kd.R_drewN | apply Kd.R_drew)); exact HO0_1.out) hb); have n2_ := kan (blk_below (g := kaq) (o := .cells #[.slice Ao5 l0_0.length co5, .slice Ao6 l0_1.length co6, .int .i64 a0_2, .int .i64 a0_3, .int .i64 a0_4] 41 (0, 0)) (by (with_reducible repeat (first | refine kae ?_ _ | refine kag ?_ | refine kaf ?_ _)); exact kao.out) hb); have n3_ := kan (Kept.below (S := (fun k_ => P0_0_ k_ ∨ P0_1_ k_)) (by repeat (first | (with_reducible first | exact HK.out | apply Kept.alloc | apply Kept.drewN | apply Kept.drew | refine Kept.setCell ?_ (.inr kav.out) _) | exact HK.out)) hb); have n4_ := kan (below_step (by repeat (first | (with_reducible first | exact HB.out | apply kak | apply kai | apply kaj | refine kah ?_ kaw.out) | exact HB.out)) hb); have n5_ := kan (hbox); have n6_ := kan ((by rw [hg]; exact (by first | exact HK.out.1 | exact (show Kept w _ (fun k_ => P0_0_ k_ ∨ P0_1_ k_) from by repeat (first | (with_reducible first | exact HK.out | apply Kept.alloc | apply Kept.drewN | apply Kept.drew | refine Kept.setCell ?_ (.inr kav.out) _) | exact HK.out)).1) : w.heap.size ≤ kas)); have n7_ := kan ((by rw [hg]; exact (below_size (by repeat (first | (with_reducible first | exact HB.out | apply kak | apply kai | apply kaj | refine kah ?_ kaw.out) | exact HB.out))) : w0.heap.size ≤ kas)); have n8_ := kan ((by rw [hg]; exact Nat.ne_of_lt (blk_lt (g := kaq) (o := .cells #[.slice Ao5 l0_0.length co5, .slice Ao6 l0_1.length co6, .int .i64 a0_2, .int .i64 a0_3, .int .i64 a0_4] 41 (0, 0)) (by (with_reducible repeat (first | refine kae ?_ _ | refine kag ?_ | refine kaf ?_ _)); exact kao.out)) : kaq ≠ kas)); have n9_ := kan ((by rw [hg]; exact Nat.ne_of_gt (blk_lt (g := kaq) (o := .cells #[.slice Ao5 l0_0.length co5, .slice Ao6 l0_1.length co6, .int .i64 a0_2, .int .i64 a0_3, .int .i64 a0_4] 41 (0, 0)) (by (with_reducible repeat (first | refine kae ?_ _ | refine kag ?_ | refine kaf ?_ _)); exact kao.out)) : kas ≠ kaq)); clear HO0_0; clear HO0_1; clear kao; clear HK; clear HB; have HO0_0 := n0_; have HO0_1 := n1_; have kao := n2_; have HK := n3_; have HB := n4_; have kar := n5_; have kax := n6_; have kay := n7_; have kbe := n8_; have kaz := n9_; clear n0_ n1_ n2_ n3_ n4_ n5_ n6_ n7_ n8_ n9_; clear hb hbox hg))
 (try simp only [Act.put, kaa, kab, kac])
 go_cut [23] (fun v23 wc => ∃ (kq : Nat) (kbf : Bool), v23 = .bool kbf ∧ Aside0 (j0 kq a1 a2 kbf l0_0 l0_1 a0_2 a0_3 a0_4 = some (r1, r2, r3, r4, r5, r6)) ∧ Aside0 (kq ≤ k) ∧ Aside0 (Kd.R k60 60 wc w0.heap.size (fun k_ => ((P0_0_ k_ ∨ P0_1_ k_) ∨ w.heap.size ≤ k_)) (.slice Ao5 l0_0.length co5) l0_0) ∧ Aside0 (Kd.R k71 71 wc w0.heap.size (fun k_ => ((P0_0_ k_ ∨ P0_1_ k_) ∨ w.heap.size ≤ k_)) (.slice Ao6 l0_1.length co6) l0_1) ∧ Aside0 (wc.heap[kaq]? = some (.cells #[(.slice Ao5 l0_0.length co5), (.slice Ao6 l0_1.length co6), .int .i64 a0_2, .int .i64 a0_3, .int .i64 a0_4] 41 (0, 0))) ∧ Aside0 (wc.heap[kas]? = some (.cells #[(.slice none 0 0), (.slice none 0 0), .int .i64 0, .int .i64 0, .int .i64 0] 41 (0, 0))) ∧ Aside0 (Kept w wc (fun k_ => P0_0_ k_ ∨ P0_1_ k_)) ∧ Aside0 (Below w0.heap.size w0 wc))
 case first =>
  have H := HC4.out
  clear HC4
  replace H := Option.bind_eq_some_iff.mp H
  obtain ⟨t184, A90, H⟩ := H
  replace H : (if t184 = true then ((stowageref08_Node.f a2).bind fun t185 => (if t185 = true then (j0 k a1 a2 (a1 == a2) l0_0 l0_1 a0_2 a0_3 a0_4) else (j0 k a1 a2 true l0_0 l0_1 a0_2 a0_3 a0_4))) else (j0 k a1 a2 true l0_0 l0_1 a0_2 a0_3 a0_4)) = some (r1, r2, r3, r4, r5, r6) := H
  have A9 := kan A90
  clear A90
  by_cases c10 : t184 = true
  ·subst c10
   have H1 : ((stowageref08_Node.f a2).bind fun t185 => (if t185 = true then (j0 k a1 a2 (a1 == a2) l0_0 l0_1 a0_2 a0_3 a0_4) else (j0 k a1 a2 true l0_0 l0_1 a0_2 a0_3 a0_4))) = some (r1, r2, r3, r4, r5, r6) := by rw [if_pos rfl] at H; exact H
   clear H
   have H := H1
   clear H1
   replace H := Option.bind_eq_some_iff.mp H
   obtain ⟨t185, A110, H⟩ := H
   replace H : (if t185 = true then (j0 k a1 a2 (a1 == a2) l0_0 l0_1 a0_2 a0_3 a0_4) else (j0 k a1 a2 true l0_0 l0_1 a0_2 a0_3 a0_4)) = some (r1, r2, r3, r4, r5, r6) := H
   have A11 := kan A110
   clear A110
   by_cases c12 : t185 = true
   ·subst c12
    have H1 : (j0 k a1 a2 (a1 == a2) l0_0 l0_1 a0_2 a0_3 a0_4) = some (r1, r2, r3, r4, r5, r6) := by rw [if_pos rfl] at H; exact H
    clear H
    have H := H1
    clear H1
    have H' := kan H
    clear H
    go_wp2_with (first | ((with_reducible refine gate_callee (f := 21) rfl ?_); refine goesL_ (some 12) rfl rfl Try.func21 (by kernel_rfl) rfl #[.int .i64 a1] rfl (by (try simp only [List.map_toArray, List.map_cons, List.map_nil]); first | done | rfl) ?_; (with_reducible refine (stowageref08_Node.calls a1 true _ A9.out).mono ?_); rintro e w' ⟨rfl, ⟨nd, rfl⟩⟩; refine ⟨_, rfl, ?_⟩) | (go_at_call 21; (with_reducible refine (stowageref08_Node.calls a2 true _ A11.out).mono ?_); rintro e w' ⟨rfl, ⟨nd, rfl⟩⟩))
    go_meet
    case rel => exact ⟨_, ((a1 == a2)), (by first | rfl | (simp; done) | (simp [*]; done)), H', ⟨by first | omega | exact Nat.le_refl _⟩, ⟨by (with_reducible repeat (first | apply Kd.R_alloc | apply Kd.R_drewN | apply Kd.R_drew)); exact HO0_0.out⟩, ⟨by (with_reducible repeat (first | apply Kd.R_alloc | apply Kd.R_drewN | apply Kd.R_drew)); exact HO0_1.out⟩, ⟨by (with_reducible repeat (first | refine kae ?_ _ | refine kag ?_ | refine kaf ?_ _)); exact kao.out⟩, ⟨by (with_reducible repeat (first | refine kae ?_ _ | refine kag ?_ | refine kaf ?_ _)); exact kar.out⟩, ⟨by repeat (first | (with_reducible first | exact HK.out | apply Kept.alloc | apply Kept.drewN | apply Kept.drew | refine Kept.setCell ?_ (.inr kav.out) _ | refine Kept.setCell ?_ (.inr kax.out) _) | exact HK.out)⟩, ⟨by repeat (first | (with_reducible first | exact HB.out | apply kak | apply kai | apply kaj | refine kah ?_ kaw.out | refine kah ?_ kay.out) | exact HB.out)⟩⟩
   ·replace c12 := Bool.eq_false_iff.mpr c12
    subst c12
    have H1 : (j0 k a1 a2 true l0_0 l0_1 a0_2 a0_3 a0_4) = some (r1, r2, r3, r4, r5, r6) := by rw [if_neg (show ¬ (false = true) by decide)] at H; exact H
    clear H
    have H := H1
    clear H1
    have H' := kan H
    clear H
    go_wp2_with (first | ((with_reducible refine gate_callee (f := 21) rfl ?_); refine goesL_ (some 12) rfl rfl Try.func21 (by kernel_rfl) rfl #[.int .i64 a1] rfl (by (try simp only [List.map_toArray, List.map_cons, List.map_nil]); first | done | rfl) ?_; (with_reducible refine (stowageref08_Node.calls a1 true _ A9.out).mono ?_); rintro e w' ⟨rfl, ⟨nd, rfl⟩⟩; refine ⟨_, rfl, ?_⟩) | (go_at_call 21; (with_reducible refine (stowageref08_Node.calls a2 false _ A11.out).mono ?_); rintro e w' ⟨rfl, ⟨nd, rfl⟩⟩))
    go_meet
    case rel => exact ⟨_, (true), (by first | rfl | (simp; done) | (simp [*]; done)), H', ⟨by first | omega | exact Nat.le_refl _⟩, ⟨by (with_reducible repeat (first | apply Kd.R_alloc | apply Kd.R_drewN | apply Kd.R_drew)); exact HO0_0.out⟩, ⟨by (with_reducible repeat (first | apply Kd.R_alloc | apply Kd.R_drewN | apply Kd.R_drew)); exact HO0_1.out⟩, ⟨by (with_reducible repeat (first | refine kae ?_ _ | refine kag ?_ | refine kaf ?_ _)); exact kao.out⟩, ⟨by (with_reducible repeat (first | refine kae ?_ _ | refine kag ?_ | refine kaf ?_ _)); exact kar.out⟩, ⟨by repeat (first | (with_reducible first | exact HK.out | apply Kept.alloc | apply Kept.drewN | apply Kept.drew | refine Kept.setCell ?_ (.inr kav.out) _ | refine Kept.setCell ?_ (.inr kax.out) _) | exact HK.out)⟩, ⟨by repeat (first | (with_reducible first | exact HB.out | apply kak | apply kai | apply kaj | refine kah ?_ kaw.out | refine kah ?_ kay.out) | exact HB.out)⟩⟩
  ·replace c10 := Bool.eq_false_iff.mpr c10
   subst c10
   have H1 : (j0 k a1 a2 true l0_0 l0_1 a0_2 a0_3 a0_4) = some (r1, r2, r3, r4, r5, r6) := by rw [if_neg (show ¬ (false = true) by decide)] at H; exact H
   clear H
   have H := H1
   clear H1
   have H' := kan H
   clear H
   go_wp2_with (first | ((with_reducible refine gate_callee (f := 21) rfl ?_); refine goesL_ (some 12) rfl rfl Try.func21 (by kernel_rfl) rfl #[.int .i64 a1] rfl (by (try simp only [List.map_toArray, List.map_cons, List.map_nil]); first | done | rfl) ?_; (with_reducible refine (stowageref08_Node.calls a1 false _ A9.out).mono ?_); rintro e w' ⟨rfl, ⟨nd, rfl⟩⟩; refine ⟨_, rfl, ?_⟩))
   go_meet
   case rel => exact ⟨_, (true), (by first | rfl | (simp; done) | (simp [*]; done)), H', ⟨by first | omega | exact Nat.le_refl _⟩, ⟨by (with_reducible repeat (first | apply Kd.R_alloc | apply Kd.R_drewN | apply Kd.R_drew)); exact HO0_0.out⟩, ⟨by (with_reducible repeat (first | apply Kd.R_alloc | apply Kd.R_drewN | apply Kd.R_drew)); exact HO0_1.out⟩, ⟨by (with_reducible repeat (first | refine kae ?_ _ | refine kag ?_ | refine kaf ?_ _)); exact kao.out⟩, ⟨by (with_reducible repeat (first | refine kae ?_ _ | refine kag ?_ | refine kaf ?_ _)); exact kar.out⟩, ⟨by repeat (first | (with_reducible first | exact HK.out | apply Kept.alloc | apply Kept.drewN | apply Kept.drew | refine Kept.setCell ?_ (.inr kav.out) _ | refine Kept.setCell ?_ (.inr kax.out) _) | exact HK.out)⟩, ⟨by repeat (first | (with_reducible first | exact HB.out | apply kak | apply kai | apply kaj | refine kah ?_ kaw.out | refine kah ?_ kay.out) | exact HB.out)⟩⟩
 case rest =>
  clear HC4
  try clear c1
  try clear c2
  try clear p2
  try clear c3
  try clear c10
  try clear c12
  obtain ⟨kq, kbf, rfl, HA, HJ3, HO_183000, HO_183001, kao, kar, HK, HB⟩ := hcut
  cases kq with
  | zero => exact absurd HA.out (by simp [j0])
  | succ kj3 =>
   have H := HA.out
   clear HA
   simp only [j0] at H
   by_cases c13 : kbf = true
   ·subst c13
    have H1 : (some (l0_0, l0_1, a0_2, a0_3, a0_4, 0)) = some (r1, r2, r3, r4, r5, r6) := by rw [if_pos rfl] at H; exact H
    clear H
    have H := H1
    clear H1
    simp only [Option.some.injEq, Prod.mk.injEq] at H
    obtain ⟨rfl, rfl, rfl, rfl, rfl, rfl⟩ := H
    have hnb14 := kbe.out
    have hnc14 := kaz.out
    have kbg : wc.cell? ⟨kaq, 0, none⟩ = some (.slice Ao5 l0_0.length co5) := (kal kao.out 0).trans rfl
    have kbh : wc.cell? ⟨kaq, 1, none⟩ = some (.slice Ao6 l0_1.length co6) := (kal kao.out 1).trans rfl
    have kbi : wc.cell? ⟨kaq, 2, none⟩ = some (.int .i64 a0_2) := (kal kao.out 2).trans rfl
    have kbj : wc.cell? ⟨kaq, 3, none⟩ = some (.int .i64 a0_3) := (kal kao.out 3).trans rfl
    have kbk : wc.cell? ⟨kaq, 4, none⟩ = some (.int .i64 a0_4) := (kal kao.out 4).trans rfl
    have kbl := kam kao.out 0
    have kbm := kam kao.out 1
    have kbn := kam kao.out 2
    have kbo := kam kao.out 3
    have kbp := kam kao.out 4
    have kbq : wc.cell? ⟨kas, 0, none⟩ = some (.slice none 0 0) := (kal kar.out 0).trans rfl
    have kbr : wc.cell? ⟨kas, 1, none⟩ = some (.slice none 0 0) := (kal kar.out 1).trans rfl
    have kbs : wc.cell? ⟨kas, 2, none⟩ = some (.int .i64 0) := (kal kar.out 2).trans rfl
    have kbt : wc.cell? ⟨kas, 3, none⟩ = some (.int .i64 0) := (kal kar.out 3).trans rfl
    have kbu : wc.cell? ⟨kas, 4, none⟩ = some (.int .i64 0) := (kal kar.out 4).trans rfl
    have kbv := kam kar.out 0
    have kbw := kam kar.out 1
    have kbx := kam kar.out 2
    have kby := kam kar.out 3
    have kbz := kam kar.out 4
    go_wp2
    refine bodyPost_ret (results_ct rfl _ _ kas 41 #[.slice Ao5 l0_0.length co5, .slice Ao6 l0_1.length co6, .int .i64 a0_2, .int .i64 a0_3, .int .i64 a0_4] (0, 0) _ rfl (by (with_reducible repeat (first | refine kae ?_ _ | refine kag ?_ | refine kaf ?_ _)); refine blk_put (cs := #[.slice Ao5 l0_0.length co5, .slice Ao6 l0_1.length co6, .int .i64 a0_2, .int .i64 a0_3, .int .i64 0]) ?_ 4 _ rfl; (with_reducible repeat (first | refine kae ?_ _ | refine kag ?_ | refine kaf ?_ _)); refine blk_put (cs := #[.slice Ao5 l0_0.length co5, .slice Ao6 l0_1.length co6, .int .i64 a0_2, .int .i64 0, .int .i64 0]) ?_ 3 _ rfl; (with_reducible repeat (first | refine kae ?_ _ | refine kag ?_ | refine kaf ?_ _)); refine blk_put (cs := #[.slice Ao5 l0_0.length co5, .slice Ao6 l0_1.length co6, .int .i64 0, .int .i64 0, .int .i64 0]) ?_ 2 _ rfl; (with_reducible repeat (first | refine kae ?_ _ | refine kag ?_ | refine kaf ?_ _)); refine blk_put (cs := #[.slice Ao5 l0_0.length co5, .slice none 0 0, .int .i64 0, .int .i64 0, .int .i64 0]) ?_ 1 _ rfl; (with_reducible repeat (first | refine kae ?_ _ | refine kag ?_ | refine kaf ?_ _)); refine blk_put (cs := #[.slice none 0 0, .slice none 0 0, .int .i64 0, .int .i64 0, .int .i64 0]) ?_ 0 _ rfl; (with_reducible repeat (first | refine kae ?_ _ | refine kag ?_ | refine kaf ?_ _)); exact kar.out) Try.underlying41 rfl (by kernel_rfl)) rfl ?_
    exact ⟨_, _, by first | rfl | (simp [errW_none, errW_some] <;> rfl) | (simp [*, errW_none, errW_some] <;> rfl), by (with_reducible repeat (first | apply Kd.R_alloc | apply Kd.R_drewN | apply Kd.R_drew)); exact Kd.R_mono (Kd.R_far (p := ⟨kas, 4, none⟩) (Kd.R_far (p := ⟨kas, 3, none⟩) (Kd.R_far (p := ⟨kas, 2, none⟩) (Kd.R_far (p := ⟨kas, 1, none⟩) (Kd.R_far (p := ⟨kas, 0, none⟩) (Kd.R_types HO_183000.out kar.out (by decide)) (fun _ hk => hk.2) (.slice Ao5 l0_0.length co5)) (fun _ hk => hk.2) (.slice Ao6 l0_1.length co6)) (fun _ hk => hk.2) (.int .i64 a0_2)) (fun _ hk => hk.2) (.int .i64 a0_3)) (fun _ hk => hk.2) (.int .i64 a0_4)) (fun _ hk => hk.1), by (with_reducible repeat (first | apply Kd.R_alloc | apply Kd.R_drewN | apply Kd.R_drew)); exact Kd.R_mono (Kd.R_far (p := ⟨kas, 4, none⟩) (Kd.R_far (p := ⟨kas, 3, none⟩) (Kd.R_far (p := ⟨kas, 2, none⟩) (Kd.R_far (p := ⟨kas, 1, none⟩) (Kd.R_far (p := ⟨kas, 0, none⟩) (Kd.R_types HO_183001.out kar.out (by decide)) (fun _ hk => hk.2) (.slice Ao5 l0_0.length co5)) (fun _ hk => hk.2) (.slice Ao6 l0_1.length co6)) (fun _ hk => hk.2) (.int .i64 a0_2)) (fun _ hk => hk.2) (.int .i64 a0_3)) (fun _ hk => hk.2) (.int .i64 a0_4)) (fun _ hk => hk.1), by repeat (first | (with_reducible first | exact HB.out | apply kak | apply kai | apply kaj | refine kah ?_ kaw.out | refine kah ?_ kay.out) | exact HB.out), by repeat (first | (with_reducible first | exact HK.out | apply Kept.alloc | apply Kept.drewN | apply Kept.drew | refine Kept.setCell ?_ (.inr kav.out) _ | refine Kept.setCell ?_ (.inr kax.out) _) | exact HK.out)⟩
   ·replace c13 := Bool.eq_false_iff.mpr c13
    subst c13
    have H1 : ((some (([] : List (S71)) : List (S71))).bind fun y186 => (if y186.length + l0_1.length < 8796093022208 then ((some (y186 ++ l0_1 : List (S71))).bind fun y189 => (if y189.length < 8796093022208 then (l0 kj3 ([] : List (S60)) 0 l0_0 (y189 ++ [(⟨a1, a2⟩ : S71)]) a0_2 a0_3 a0_4) else (none))) else (none))) = some (r1, r2, r3, r4, r5, r6) := by rw [if_neg (show ¬ (false = true) by decide)] at H; exact H
    clear H
    have H := H1
    clear H1
    obtain ⟨y186, hy186⟩ : ∃ y_ : List (S71), y_ = (([] : List (S71))) := ⟨_, rfl⟩
    replace H : (if y186.length + l0_1.length < 8796093022208 then ((some (y186 ++ l0_1 : List (S71))).bind fun y189 => (if y189.length < 8796093022208 then (l0 kj3 ([] : List (S60)) 0 l0_0 (y189 ++ [(⟨a1, a2⟩ : S71)]) a0_2 a0_3 a0_4) else (none))) else (none)) = some (r1, r2, r3, r4, r5, r6) := by first | (rw [hy186]; with_reducible exact H) | (have H2_ := (Option.bind_some _ _).symm.trans H; rw [hy186]; with_reducible exact H2_) | (have H2_ := (Option.bind_some _ _).symm.trans H; with_reducible exact H2_) | with_reducible exact H | (rw [hy186]; exact H) | exact H
    have Ny186 := kan hy186
    clear hy186
    by_cases c17 : y186.length + l0_1.length < 8796093022208
    ·rw [if_pos c17] at H
     have LMc17 := kan c17
     clear c17
     obtain ⟨y189, hy189⟩ : ∃ y_ : List (S71), y_ = (y186 ++ l0_1) := ⟨_, rfl⟩
     replace H : (if y189.length < 8796093022208 then (l0 kj3 ([] : List (S60)) 0 l0_0 (y189 ++ [(⟨a1, a2⟩ : S71)]) a0_2 a0_3 a0_4) else (none)) = some (r1, r2, r3, r4, r5, r6) := by first | (rw [hy189]; with_reducible exact H) | (have H2_ := (Option.bind_some _ _).symm.trans H; rw [hy189]; with_reducible exact H2_) | (have H2_ := (Option.bind_some _ _).symm.trans H; with_reducible exact H2_) | with_reducible exact H | (rw [hy189]; exact H) | exact H
     have Ny189 := kan hy189
     clear hy189
     by_cases c18 : y189.length < 8796093022208
     ·rw [if_pos c18] at H
      have LMc18 := kan c18
      clear c18
      obtain ⟨y192, hy192⟩ : ∃ y_ : List (S71), y_ = (y189 ++ [(⟨a1, a2⟩ : S71)]) := ⟨_, rfl⟩
      replace H : (l0 kj3 ([] : List (S60)) 0 l0_0 y192 a0_2 a0_3 a0_4) = some (r1, r2, r3, r4, r5, r6) := by first | (rw [hy192]; with_reducible exact H) | (have H2_ := (Option.bind_some _ _).symm.trans H; rw [hy192]; with_reducible exact H2_) | (have H2_ := (Option.bind_some _ _).symm.trans H; with_reducible exact H2_) | with_reducible exact H | (rw [hy192]; exact H) | exact H
      have Ny192 := kan hy192
      clear hy192
      have H' := kan H
      clear H
      go_wp2_with (first | ((with_reducible refine gate_dst (N := 25) rfl ?_); refine Kd.R_lit k71 _ 71 ?hg (N := 25) ?hd (xs := ([] : List (S71))) (inner := []) (ok := fun _ => True) (okp := fun _ => True) ?hr ?hp (fun _ hk => hk) trivial (Below.refl _ _) (Nat.le_refl _) (by simp) ?_; (case hd => rfl); (case hg => rfl); (case hr => first | (go_simp; done) | (go_simp; rfl)); (case hp => exact (Reps.none _ _)); intro v187 w19 ho20 hb hg_ hnew_; clear hg_ hnew_; (first | rw [← Ny186.out] at ho20 | (simp only [Int.reduceToNat] at ho20; rw [← Ny186.out] at ho20)); have n0_ := kan (Kd.R_below (by (with_reducible repeat (first | apply Kd.R_alloc | apply Kd.R_drewN | apply Kd.R_drew)); exact HO_183000.out) hb); have n1_ := kan (Kd.R_elder' (by (with_reducible repeat (first | apply Kd.R_alloc | apply Kd.R_drewN | apply Kd.R_drew)); exact HO_183001.out) (Kd.R_base ho20) hb); have n2_ := kan (Kd.R_lower (Kd.R_new' (Kd.R_newM (M := fun k_ => ((P0_0_ k_ ∨ P0_1_ k_) ∨ w.heap.size ≤ k_)) ho20 (by first | exact HK.out.1 | exact (show Kept w _ (fun k_ => P0_0_ k_ ∨ P0_1_ k_) from by repeat (first | (with_reducible first | exact HK.out | apply Kept.alloc | apply Kept.drewN | apply Kept.drew | refine Kept.setCell ?_ (.inr kav.out) _ | refine Kept.setCell ?_ (.inr kax.out) _) | exact HK.out)).1) (fun k_ h_ => .inr h_)) (Kd.R_lt (by (with_reducible repeat (first | apply Kd.R_alloc | apply Kd.R_drewN | apply Kd.R_drew)); exact HO_183001.out))) (below_size (by repeat (first | (with_reducible first | exact HB.out | apply kak | apply kai | apply kaj | refine kah ?_ kaw.out | refine kah ?_ kay.out) | exact HB.out)))); have n3_ := kan (blk_below (g := kaq) (o := .cells #[.slice Ao5 l0_0.length co5, .slice Ao6 l0_1.length co6, .int .i64 a0_2, .int .i64 a0_3, .int .i64 a0_4] 41 (0, 0)) (by (with_reducible repeat (first | refine kae ?_ _ | refine kag ?_ | refine kaf ?_ _)); exact kao.out) hb); have n4_ := kan (blk_below (g := kas) (o := .cells #[.slice none 0 0, .slice none 0 0, .int .i64 0, .int .i64 0, .int .i64 0] 41 (0, 0)) (by (with_reducible repeat (first | refine kae ?_ _ | refine kag ?_ | refine kaf ?_ _)); exact kar.out) hb); have n5_ := kan (Kept.below (S := (fun k_ => P0_0_ k_ ∨ P0_1_ k_)) (by repeat (first | (with_reducible first | exact HK.out | apply Kept.alloc | apply Kept.drewN | apply Kept.drew | refine Kept.setCell ?_ (.inr kav.out) _ | refine Kept.setCell ?_ (.inr kax.out) _) | exact HK.out)) hb); have n6_ := kan (below_step (by repeat (first | (with_reducible first | exact HB.out | apply kak | apply kai | apply kaj | refine kah ?_ kaw.out | refine kah ?_ kay.out) | exact HB.out)) hb); clear HO_183000; clear HO_183001; clear kao; clear kar; clear HK; clear HB; have HO_183000 := n0_; have HO_183001 := n1_; have HO188 := n2_; have kao := n3_; have kar := n4_; have HK := n5_; have HB := n6_; clear n0_ n1_ n2_ n3_ n4_ n5_ n6_; clear hb ho20; have hnb21 := kbe.out; have hnc21 := kaz.out; have kca : w19.cell? ⟨kaq, 0, none⟩ = some (.slice Ao5 l0_0.length co5) := (kal kao.out 0).trans rfl; have kcb : w19.cell? ⟨kaq, 1, none⟩ = some (.slice Ao6 l0_1.length co6) := (kal kao.out 1).trans rfl; have kcc : w19.cell? ⟨kaq, 2, none⟩ = some (.int .i64 a0_2) := (kal kao.out 2).trans rfl; have kcd : w19.cell? ⟨kaq, 3, none⟩ = some (.int .i64 a0_3) := (kal kao.out 3).trans rfl; have kce : w19.cell? ⟨kaq, 4, none⟩ = some (.int .i64 a0_4) := (kal kao.out 4).trans rfl; have kcf := kam kao.out 0; have kcg := kam kao.out 1; have kch := kam kao.out 2; have kci := kam kao.out 3; have kcj := kam kao.out 4) | ((with_reducible refine gate_builtin (b := .append) (xs := #[.tmp 25, .tmp 27]) rfl ?_); at_builtin; refine Kd.R_append_rows k71 (w0 := w0) w0.heap.size rfl (.tmp 25) (.tmp 27) 39 71 (.agg #[(.int .i64 0), (.int .i64 0)]) 16 rfl Try.underlying39 info71 rfl (by decide) (by omega) v187 y186 l0_1 _ _ _ (fun k_ => ((P0_0_ k_ ∨ P0_1_ k_) ∨ w.heap.size ≤ k_) ∧ some k_ ≠ (.slice Ao6 l0_1.length co6 : Value).ownBlock) (fun _ => False) rfl rfl ?aO ?aR (fun _ _ h => h) (fun _ h => h.elim) ?aF ?aB ?aS ?aL ?_; (case aR => repeat (first | exact (Kd.R_reads' HO_183001.out).2.2 | (with_reducible refine Kd.C_alloc ?_ _) | (with_reducible refine Kd.C_drewN ?_ _) | (with_reducible refine Kd.C_drew ?_))); (case aB => exact (by repeat (first | (with_reducible first | exact HB.out | apply kak | apply kai | apply kaj | refine kah ?_ kaw.out | refine kah ?_ kay.out) | exact HB.out))); (case aF => exact (fun k_ hk => ⟨(.inr (Nat.le_trans (by first | exact HK.out.1 | exact (show Kept w _ (fun k_ => P0_0_ k_ ∨ P0_1_ k_) from by repeat (first | (with_reducible first | exact HK.out | apply Kept.alloc | apply Kept.drewN | apply Kept.drew | refine Kept.setCell ?_ (.inr kav.out) _ | refine Kept.setCell ?_ (.inr kax.out) _) | exact HK.out)).1) hk)), Kd.fresh' (Kd.R_lt (by (with_reducible repeat (first | apply Kd.R_alloc | apply Kd.R_drewN | apply Kd.R_drew)); exact HO_183001.out)) k_ hk⟩)); (case aO => exact (by (with_reducible repeat (first | apply Kd.R_alloc | apply Kd.R_drewN | apply Kd.R_drew)); exact Kd.R_mono HO188.out (fun _ hk => ⟨hk.1.1, hk.2⟩))); (case aS => exact (below_size (by repeat (first | (with_reducible first | exact HB.out | apply kak | apply kai | apply kaj | refine kah ?_ kaw.out | refine kah ?_ kay.out) | exact HB.out)))); (case aL => have := LMc17.out; omega); intro v190 w23 ho hb hg hat; rw [← Ny189.out] at ho; have n0_ := kan (Kd.R_over' (by (with_reducible repeat (first | apply Kd.R_alloc | apply Kd.R_drewN | apply Kd.R_drew)); exact HO_183000.out) (Kd.R_typed (by (with_reducible repeat (first | apply Kd.R_alloc | apply Kd.R_drewN | apply Kd.R_drew)); exact HO188.out)) (by decide) hg); have n1_ := kan (Kd.R_after (ok := (fun k_ => ((P0_0_ k_ ∨ P0_1_ k_) ∨ w.heap.size ≤ k_))) (by (with_reducible repeat (first | apply Kd.R_alloc | apply Kd.R_drewN | apply Kd.R_drew)); exact HO_183001.out) hg hat); have n2_ := kan (blk_grown (g := kaq) (o := .cells #[.slice Ao5 l0_0.length co5, .slice Ao6 l0_1.length co6, .int .i64 a0_2, .int .i64 a0_3, .int .i64 a0_4] 41 (0, 0)) (by (with_reducible repeat (first | refine kae ?_ _ | refine kag ?_ | refine kaf ?_ _)); exact kao.out) hg (Kd.R_ne HO188.out kao.out (by decide))); have n3_ := kan (blk_grown (g := kas) (o := .cells #[.slice none 0 0, .slice none 0 0, .int .i64 0, .int .i64 0, .int .i64 0] 41 (0, 0)) (by (with_reducible repeat (first | refine kae ?_ _ | refine kag ?_ | refine kaf ?_ _)); exact kar.out) hg (Kd.R_ne HO188.out kar.out (by decide))); have n4_ := kan (hb); have n5_ := kan (Kept.of_grown (S := (fun k_ => P0_0_ k_ ∨ P0_1_ k_)) hg (by repeat (first | (with_reducible first | exact HK.out | apply Kept.alloc | apply Kept.drewN | apply Kept.drew | refine Kept.setCell ?_ (.inr kav.out) _ | refine Kept.setCell ?_ (.inr kax.out) _) | exact HK.out)) (fun k_ e_ => (HO188.out.1 k_ e_).1.1)); have n6_ := kan (ho); clear HO_183000; clear HO_183001; clear kao; clear kar; clear HB; clear HK; clear HO188; have HO_183000 := n0_; have HO_183001 := n1_; have kao := n2_; have kar := n3_; have HB := n4_; have HK := n5_; have HO191 := n6_; clear n0_ n1_ n2_ n3_ n4_ n5_ n6_; clear ho hb hg hat) | ((with_reducible refine gate_builtin (b := .append) (xs := #[.tmp 28, .tmp 32]) rfl ?_); at_builtin; refine Kd.R_append k71 (w0 := w0) w0.heap.size rfl (.tmp 28) (.tmp 32) 39 71 (.agg #[(.int .i64 0), (.int .i64 0)]) 16 rfl Try.underlying39 info71 rfl (by decide) (by omega) v190 y189 (⟨a1, a2⟩ : S71) [.int .i64 a1, .int .i64 a2] (fun k_ => ((P0_0_ k_ ∨ P0_1_ k_) ∨ w.heap.size ≤ k_) ∧ some k_ ≠ (.slice Ao6 l0_1.length co6 : Value).ownBlock) (fun _ => False) rfl rfl ?aP (fun _ hk => hk.elim) ?aF ?aO ?aB ?aS ?aL ?_; (case aP => exact k71_mkM _ _ _ (⟨a1, a2⟩ : S71)); (case aB => exact (by repeat (first | (with_reducible first | exact HB.out | apply kak | apply kai | apply kaj | refine kah ?_ kaw.out | refine kah ?_ kay.out) | exact HB.out))); (case aF => exact (fun k_ hk => ⟨(.inr (Nat.le_trans (by first | exact HK.out.1 | exact (show Kept w _ (fun k_ => P0_0_ k_ ∨ P0_1_ k_) from by repeat (first | (with_reducible first | exact HK.out | apply Kept.alloc | apply Kept.drewN | apply Kept.drew | refine Kept.setCell ?_ (.inr kav.out) _ | refine Kept.setCell ?_ (.inr kax.out) _) | exact HK.out)).1) hk)), Kd.fresh' (Kd.R_lt (by (with_reducible repeat (first | apply Kd.R_alloc | apply Kd.R_drewN | apply Kd.R_drew)); exact HO_183001.out)) k_ hk⟩)); (case aO => exact (by (with_reducible repeat (first | apply Kd.R_alloc | apply Kd.R_drewN | apply Kd.R_drew)); exact HO191.out)); (case aS => exact (below_size (by repeat (first | (with_reducible first | exact HB.out | apply kak | apply kai | apply kaj | refine kah ?_ kaw.out | refine kah ?_ kay.out) | exact HB.out)))); (case aL => have := LMc18.out; omega); intro v193 w24 ho hb hg hat; rw [← Ny192.out] at ho; have n0_ := kan (Kd.R_over' (by (with_reducible repeat (first | apply Kd.R_alloc | apply Kd.R_drewN | apply Kd.R_drew)); exact HO_183000.out) (Kd.R_typed (by (with_reducible repeat (first | apply Kd.R_alloc | apply Kd.R_drewN | apply Kd.R_drew)); exact HO191.out)) (by decide) hg); have n1_ := kan (Kd.R_after (ok := (fun k_ => ((P0_0_ k_ ∨ P0_1_ k_) ∨ w.heap.size ≤ k_))) (by (with_reducible repeat (first | apply Kd.R_alloc | apply Kd.R_drewN | apply Kd.R_drew)); exact HO_183001.out) hg hat); have n2_ := kan (blk_grown (g := kaq) (o := .cells #[.slice Ao5 l0_0.length co5, .slice Ao6 l0_1.length co6, .int .i64 a0_2, .int .i64 a0_3, .int .i64 a0_4] 41 (0, 0)) (by (with_reducible repeat (first | refine kae ?_ _ | refine kag ?_ | refine kaf ?_ _)); exact kao.out) hg (Kd.R_ne HO191.out kao.out (by decide))); have n3_ := kan (blk_grown (g := kas) (o := .cells #[.slice none 0 0, .slice none 0 0, .int .i64 0, .int .i64 0, .int .i64 0] 41 (0, 0)) (by (with_reducible repeat (first | refine kae ?_ _ | refine kag ?_ | refine kaf ?_ _)); exact kar.out) hg (Kd.R_ne HO191.out kar.out (by decide))); have n4_ := kan (hb); have n5_ := kan (Kept.of_grown (S := (fun k_ => P0_0_ k_ ∨ P0_1_ k_)) hg (by repeat (first | (with_reducible first | exact HK.out | apply Kept.alloc | apply Kept.drewN | apply Kept.drew | refine Kept.setCell ?_ (.inr kav.out) _ | refine Kept.setCell ?_ (.inr kax.out) _) | exact HK.out)) (fun k_ e_ => (HO191.out.1 k_ e_).1)); have n6_ := kan (ho); clear HO_183000; clear HO_183001; clear kao; clear kar; clear HB; clear HK; clear HO191; have HO_183000 := n0_; have HO_183001 := n1_; have kao := n2_; have kar := n3_; have HB := n4_; have HK := n5_; have HO194 := n6_; clear n0_ n1_ n2_ n3_ n4_ n5_ n6_; clear ho hb hg hat; obtain ⟨Ao25, co25, eo25⟩ := Kd.R_slice HO194.out; subst eo25; have kck : w24.cell? ⟨kaq, 0, none⟩ = some (.slice Ao5 l0_0.length co5) := (kal kao.out 0).trans rfl; have kcl : w24.cell? ⟨kaq, 1, none⟩ = some (.slice Ao6 l0_1.length co6) := (kal kao.out 1).trans rfl; have kcm : w24.cell? ⟨kaq, 2, none⟩ = some (.int .i64 a0_2) := (kal kao.out 2).trans rfl; have kcn : w24.cell? ⟨kaq, 3, none⟩ = some (.int .i64 a0_3) := (kal kao.out 3).trans rfl; have kco : w24.cell? ⟨kaq, 4, none⟩ = some (.int .i64 a0_4) := (kal kao.out 4).trans rfl; have kcp := kam kao.out 0; have kcq := kam kao.out 1; have kcr := kam kao.out 2; have kcs := kam kao.out 3; have kct := kam kao.out 4))
      go_loopg [8, 9] kj3 (fun kq v8 v9 w' => ∃ (kat : List (S60)) (kap : Int), v9 = .int .i64 kap ∧ Aside0 (l0 kq kat kap l0_0 y192 a0_2 a0_3 a0_4 = some (r1, r2, r3, r4, r5, r6)) ∧ Aside0 (kq ≤ kj3) ∧ Aside0 (Kd.R k60 60 w' w0.heap.size (fun k_ => ((P0_0_ k_ ∨ P0_1_ k_) ∨ w.heap.size ≤ k_) ∧ some k_ ≠ ((.slice Ao5 l0_0.length co5) : Value).ownBlock) v8 kat) ∧ Aside0 (Kd.R k60 60 w' w0.heap.size (fun k_ => ((P0_0_ k_ ∨ P0_1_ k_) ∨ w.heap.size ≤ k_) ∧ some k_ ≠ (v8 : Value).ownBlock) (.slice Ao5 l0_0.length co5) l0_0) ∧ Aside0 (Kd.R k71 71 w' w0.heap.size (fun k_ => ((P0_0_ k_ ∨ P0_1_ k_) ∨ w.heap.size ≤ k_)) (.slice Ao25 y192.length co25) y192) ∧ Aside0 (w'.heap[kaq]? = some (.cells #[(.slice Ao5 l0_0.length co5), (.slice Ao25 y192.length co25), .int .i64 a0_2, .int .i64 a0_3, .int .i64 a0_4] 41 (0, 0))) ∧ Aside0 (w'.heap[kas]? = some (.cells #[(.slice none 0 0), (.slice none 0 0), .int .i64 0, .int .i64 0, .int .i64 0] 41 (0, 0))) ∧ Aside0 (Kept w w' (fun k_ => P0_0_ k_ ∨ P0_1_ k_)) ∧ Aside0 (Below w0.heap.size w0 w'))
      case atStart => exact ⟨(([] : List (S60))), (0), (by first | rfl | (simp; done) | (simp [*]; done)), H', ⟨Nat.le_refl _⟩, ⟨by first | exact Kd.R_nil _ _ _ _ _ | exact Kd.N_nil _ _ _ _ _ | exact Kd.V_nil _ _ _ _ _ | exact Kd.Q_nil _ _ _ _ _ | exact Kd.S_nil _ _ _ _ _⟩, ⟨by (with_reducible repeat (first | apply Kd.R_alloc | apply Kd.R_drewN | apply Kd.R_drew)); exact Kd.R_mono (Kd.R_far (p := ⟨kaq, 1, none⟩) (Kd.R_types HO_183000.out kao.out (by decide)) (fun _ hk => hk.2) (.slice Ao25 y192.length co25)) (fun _ hk => ⟨hk.1, (by simp [Value.ownBlock])⟩)⟩, ⟨by (with_reducible repeat (first | apply Kd.R_alloc | apply Kd.R_drewN | apply Kd.R_drew)); exact Kd.R_mono (Kd.R_far (p := ⟨kaq, 1, none⟩) (Kd.R_types HO194.out kao.out (by decide)) (fun _ hk => hk.2) (.slice Ao25 y192.length co25)) (fun _ hk => hk.1.1)⟩, ⟨by (with_reducible repeat (first | refine kae ?_ _ | refine kag ?_ | refine kaf ?_ _)); refine blk_put (cs := #[.slice Ao5 l0_0.length co5, .slice Ao6 l0_1.length co6, .int .i64 a0_2, .int .i64 a0_3, .int .i64 a0_4]) ?_ 1 _ rfl; (with_reducible repeat (first | refine kae ?_ _ | refine kag ?_ | refine kaf ?_ _)); exact kao.out⟩, ⟨by (with_reducible repeat (first | refine kae ?_ _ | refine kag ?_ | refine kaf ?_ _)); refine blk_far ?_ kaz.out _; (with_reducible repeat (first | refine kae ?_ _ | refine kag ?_ | refine kaf ?_ _)); exact kar.out⟩, ⟨by repeat (first | (with_reducible first | exact HK.out | apply Kept.alloc | apply Kept.drewN | apply Kept.drew | refine Kept.setCell ?_ (.inr kav.out) _ | refine Kept.setCell ?_ (.inr kax.out) _) | exact HK.out)⟩, ⟨by repeat (first | (with_reducible first | exact HB.out | apply kak | apply kai | apply kaj | refine kah ?_ kaw.out | refine kah ?_ kay.out) | exact HB.out)⟩⟩
      case round =>
       clear H'
       try clear c1
       try clear c2
       try clear p2
       try clear c3
       try clear p6
       try clear c10
       try clear c12
       try clear c13
       try clear c14
       try clear c17
       try clear c18
       try clear c21
       try clear kbg
       try clear kbh
       try clear kbi
       try clear kbj
       try clear kbk
       try clear kbq
       try clear kbr
       try clear kbs
       try clear kbt
       try clear kbu
       try clear kca
       try clear kcb
       try clear kcc
       try clear kcd
       try clear kce
       try clear kck
       try clear kcl
       try clear kcm
       try clear kcn
       try clear kco
       try clear kbl
       try clear kbm
       try clear kbn
       try clear kbo
       try clear kbp
       try clear kbv
       try clear kbw
       try clear kbx
       try clear kby
       try clear kbz
       try clear kcf
       try clear kcg
       try clear kch
       try clear kci
       try clear kcj
       try clear kcp
       try clear kcq
       try clear kcr
       try clear kcs
       try clear kct
       try clear p2
       obtain ⟨kat, kap, rfl, HA, HK2, HO_8, HO_183000, HO_183001, kao, kar, HK, HB⟩ := hrel
       cases gk with
       | zero => exact absurd HA.out (by simp [l0])
       | succ k2 =>
        have H := HA.out
        clear HA
        simp only [l0] at H
        by_cases c27 : kap < (l0_0.length : Int)
        ·rw [if_pos c27] at H
         have c27b0 : decide (kap < (l0_0.length : Int)) = true := decide_eq_true c27
         clear c27
         by_cases c28 : 0 ≤ kap
         ·rw [if_pos c28] at H
          have c28b0 : decide (0 ≤ kap) = true := decide_eq_true c28
          clear c28
          replace H := Option.bind_eq_some_iff.mp H
          obtain ⟨t197, A290, H⟩ := H
          replace H : (if t197 = true then (l0 k2 kat (wrap64 (kap + 1)) l0_0 y192 a0_2 a0_3 a0_4) else (if kat.length < 4398046511104 then (l0 k2 (kat ++ [(⟨(rd_T60 l0_0 kap).f0, (rd_T60 l0_0 kap).f1, (rd_T60 l0_0 kap).f2⟩ : S60)]) (wrap64 (kap + 1)) l0_0 y192 a0_2 a0_3 a0_4) else (none))) = some (r1, r2, r3, r4, r5, r6) := H
          have A29 := kan A290
          clear A290
          by_cases c30 : t197 = true
          ·subst c30
           have H1 : (l0 k2 kat (wrap64 (kap + 1)) l0_0 y192 a0_2 a0_3 a0_4) = some (r1, r2, r3, r4, r5, r6) := by rw [if_pos rfl] at H; exact H
           clear H
           have H := H1
           clear H1
           have H' := kan H
           clear H
           have hnb31 := kbe.out
           have hnc31 := kaz.out
           have kcu : wr.cell? ⟨kaq, 0, none⟩ = some (.slice Ao5 l0_0.length co5) := (kal kao.out 0).trans rfl
           have kcv : wr.cell? ⟨kaq, 1, none⟩ = some (.slice Ao25 y192.length co25) := (kal kao.out 1).trans rfl
           have kcw : wr.cell? ⟨kaq, 2, none⟩ = some (.int .i64 a0_2) := (kal kao.out 2).trans rfl
           have kcx : wr.cell? ⟨kaq, 3, none⟩ = some (.int .i64 a0_3) := (kal kao.out 3).trans rfl
           have kcy : wr.cell? ⟨kaq, 4, none⟩ = some (.int .i64 a0_4) := (kal kao.out 4).trans rfl
           have kcz := kam kao.out 0
           have kda := kam kao.out 1
           have kdb := kam kao.out 2
           have kdc := kam kao.out 3
           have kdd := kam kao.out 4
           try go_wp2
           have n0_ := kan (Kd.R_drew HO_8.out)
           have n1_ := kan (Kd.R_drew HO_183000.out)
           have n2_ := kan (Kd.R_drew HO_183001.out)
           have n3_ := kan (kag kao.out)
           have n4_ := kan (kag kar.out)
           have n5_ := kan (Kept.drew HK.out)
           have n6_ := kan (kaj HB.out)
           clear HO_8
           clear HO_183000
           clear HO_183001
           clear kao
           clear kar
           clear HK
           clear HB
           have HO_8 := n0_
           have HO_183000 := n1_
           have HO_183001 := n2_
           have kao := n3_
           have kar := n4_
           have HK := n5_
           have HB := n6_
           clear n0_ n1_ n2_ n3_ n4_ n5_ n6_
           have p195 : 0 ≤ (kap : Int) := of_decide_eq_true (by first | (with_reducible assumption) | assumption)
           have q195 : kap < (l0_0.length : Int) := of_decide_eq_true (by first | (with_reducible assumption) | assumption)
           obtain ⟨ad195, e195, hx195_0, hx195_1, hx195_2⟩ := at_T60 (Kd.R_reads' HO_183000.out).2.2 kap p195 q195
           cases e195
           replace p195 := eq_true p195
           replace q195 := eq_true q195
           have p196 : 0 ≤ (kap : Int) := of_decide_eq_true (by first | (with_reducible assumption) | assumption)
           have q196 : kap < (l0_0.length : Int) := of_decide_eq_true (by first | (with_reducible assumption) | assumption)
           obtain ⟨ad196, e196, hx196_0, hx196_1, hx196_2⟩ := at_T60 (Kd.R_reads' HO_183000.out).2.2 kap p196 q196
           obtain rfl : ad195 = ad196 := (by injection e196)
           replace p196 := eq_true p196
           replace q196 := eq_true q196
           refine start_ (n := 15) (S := fun w' => w'.cell? ⟨kaq, 0, none⟩ = some (.slice (some ad195) l0_0.length co5) ∧ w'.cell? ⟨kaq, 1, none⟩ = some (.slice Ao25 y192.length co25) ∧ w'.cell? ⟨kaq, 2, none⟩ = some (.int .i64 a0_2) ∧ w'.cell? ⟨kaq, 3, none⟩ = some (.int .i64 a0_3) ∧ w'.cell? ⟨kaq, 4, none⟩ = some (.int .i64 a0_4) ∧ w'.cell? (ad195.add ((kap).toNat * 3)) = some (.int .i64 ((rd_T60 l0_0 kap).f0)) ∧ w'.cell? ⟨(ad195.add ((kap).toNat * 3)).block, (ad195.add ((kap).toNat * 3)).off + 1, none⟩ = some (.int .i64 ((rd_T60 l0_0 kap).f1)) ∧ w'.cell? ⟨(ad195.add ((kap).toNat * 3)).block, (ad195.add ((kap).toNat * 3)).off + 2, none⟩ = some (.string ((rd_T60 l0_0 kap).f2)) ∧ w'.cell? (ad195.add ((kap).toNat * 3)) = some (.int .i64 ((rd_T60 l0_0 kap).f0)) ∧ w'.cell? ⟨(ad195.add ((kap).toNat * 3)).block, (ad195.add ((kap).toNat * 3)).off + 1, none⟩ = some (.int .i64 ((rd_T60 l0_0 kap).f1)) ∧ w'.cell? ⟨(ad195.add ((kap).toNat * 3)).block, (ad195.add ((kap).toNat * 3)).off + 2, none⟩ = some (.string ((rd_T60 l0_0 kap).f2))) (ds := []) ksq0 (by kernel_rfl) rfl rfl ⟨(kal kao.out 0).trans rfl, (kal kao.out 1).trans rfl, (kal kao.out 2).trans rfl, (kal kao.out 3).trans rfl, (kal kao.out 4).trans rfl, hx195_0, hx195_1, hx195_2, hx196_0, hx196_1, hx196_2⟩ (fun hHeld => ?_); refine with_tabW tab8 bits8 (fun HT_ HW_ => ?_)
           generalize wr.drew = w33 at HO_8 HO_183000 HO_183001 kao kar HK HB hx195_0 hx195_1 hx195_2 hx196_0 hx196_1 hx196_2 hHeld ⊢
           refine pure_ (i := 1) (N := some 43) (v := ?_) (a' := ?_) ksq1 rfl rfl (any_of HT_.out (by kernel_rfl)) (fun _ _ _ h => h) (Or.inl ⟨by rfl, ?_⟩) ?_ ?_
           rotate_left
           ·intro w'
            go_simp
            with_reducible rfl
           rotate_left
           ·simp only [Act.put, kaa, kab, kac, i64_w, i32_w]
            rfl
           refine pure_ (i := 3) (N := some 45) (v := ?_) (a' := ?_) ksq2 rfl rfl (any_of HT_.out (by kernel_rfl)) (fun _ _ _ h => h) (Or.inl ⟨by rfl, ?_⟩) ?_ ?_
           rotate_left
           ·intro w'
            go_simp
            with_reducible rfl
           rotate_left
           ·simp only [Act.put, kaa, kab, kac, i64_w, i32_w]
            rfl
           refine pure_ (i := 7) (N := some 49) (v := ?_) (a' := ?_) ksq3 rfl rfl (any_of HT_.out (by kernel_rfl)) (fun _ _ _ h => h) (Or.inl ⟨by rfl, ?_⟩) ?_ ?_
           rotate_left
           ·intro w'
            go_simp
            with_reducible rfl
           rotate_left
           ·simp only [Act.put, kaa, kab, kac, i64_w, i32_w]
            rfl
           refine pure_ (i := 9) (N := some 51) (v := ?_) (a' := ?_) ksq4 rfl rfl (any_of HT_.out (by kernel_rfl)) (fun _ _ _ h => h) (Or.inl ⟨by rfl, ?_⟩) ?_ ?_
           rotate_left
           ·intro w'
            go_simp
            with_reducible rfl
           rotate_left
           ·simp only [Act.put, kaa, kab, kac, i64_w, i32_w]
            rfl
           refine take_ (i := 0) (N := some 42) (v := ?_) (a' := ?_) ksq5 rfl rfl (take_ofW HT_.out HW_.out (by kernel_rfl)) (fun _ _ _ h => h) (Or.inl ⟨by rfl, ?_⟩) hHeld ?_ ?_
           rotate_left
           ·rintro w' ⟨s0, s1, s2, s3, s4, s5, s6, s7, s8, s9, s10⟩
            go_simp
            with_reducible rfl
           rotate_left
           ·simp only [Act.put, kaa, kab, kac, i64_w, i32_w]
            rfl
           refine take_ (i := 2) (N := some 44) (v := ?_) (a' := ?_) ksq6 rfl rfl (take_ofW HT_.out HW_.out (by kernel_rfl)) (fun _ _ _ h => h) (Or.inl ⟨by rfl, ?_⟩) hHeld ?_ ?_
           rotate_left
           ·rintro w' ⟨s0, s1, s2, s3, s4, s5, s6, s7, s8, s9, s10⟩
            go_simp
            with_reducible rfl
           rotate_left
           ·simp only [Act.put, kaa, kab, kac, i64_w, i32_w]
            rfl
           refine pure_ (i := 4) (N := some 46) (v := ?_) (a' := ?_) ksq7 rfl rfl (any_of HT_.out (by kernel_rfl)) (fun _ _ _ h => h) (Or.inl ⟨by rfl, ?_⟩) ?_ ?_
           rotate_left
           ·intro w'
            go_simp
            with_reducible rfl
           rotate_left
           ·simp only [Act.put, kaa, kab, kac, i64_w, i32_w]
            rfl
           refine pure_ (i := 5) (N := some 47) (v := ?_) (a' := ?_) ksq8 rfl rfl (any_of HT_.out (by kernel_rfl)) (fun _ _ _ h => h) (Or.inl ⟨by rfl, ?_⟩) ?_ ?_
           rotate_left
           ·intro w'
            go_simp
            with_reducible rfl
           rotate_left
           ·simp only [Act.put, kaa, kab, kac, i64_w, i32_w]
            rfl
           refine take_ (i := 6) (N := some 48) (v := ?_) (a' := ?_) ksq9 rfl rfl (take_ofW HT_.out HW_.out (by kernel_rfl)) (fun _ _ _ h => h) (Or.inl ⟨by rfl, ?_⟩) hHeld ?_ ?_
           rotate_left
           ·rintro w' ⟨s0, s1, s2, s3, s4, s5, s6, s7, s8, s9, s10⟩
            go_simp
            with_reducible rfl
           rotate_left
           ·simp only [Act.put, kaa, kab, kac, i64_w, i32_w]
            rfl
           refine take_ (i := 8) (N := some 50) (v := ?_) (a' := ?_) ksq10 rfl rfl (take_ofW HT_.out HW_.out (by kernel_rfl)) (fun _ _ _ h => h) (Or.inl ⟨by rfl, ?_⟩) hHeld ?_ ?_
           rotate_left
           ·rintro w' ⟨s0, s1, s2, s3, s4, s5, s6, s7, s8, s9, s10⟩
            go_simp
            with_reducible rfl
           rotate_left
           ·simp only [Act.put, kaa, kab, kac, i64_w, i32_w]
            rfl
           refine pure_ (i := 10) (N := some 52) (v := ?_) (a' := ?_) ksq11 rfl rfl (any_of HT_.out (by kernel_rfl)) (fun _ _ _ h => h) (Or.inl ⟨by rfl, ?_⟩) ?_ ?_
           rotate_left
           ·intro w'
            go_simp
            with_reducible rfl
           rotate_left
           ·simp only [Act.put, kaa, kab, kac, i64_w, i32_w]
            rfl
           refine pure_ (i := 11) (N := some 53) (v := ?_) (a' := ?_) ksq12 rfl rfl (any_of HT_.out (by kernel_rfl)) (fun _ _ _ h => h) (Or.inl ⟨by rfl, ?_⟩) ?_ ?_
           rotate_left
           ·intro w'
            go_simp
            with_reducible rfl
           rotate_left
           ·simp only [Act.put, kaa, kab, kac, i64_w, i32_w]
            rfl
           refine take_ (i := 12) (N := some 54) (v := ?_) (a' := ?_) ksq13 rfl rfl (take_ofW HT_.out HW_.out (by kernel_rfl)) (fun _ _ _ h => h) (Or.inl ⟨by rfl, ?_⟩) hHeld ?_ ?_
           rotate_left
           ·rintro w' ⟨s0, s1, s2, s3, s4, s5, s6, s7, s8, s9, s10⟩
            go_simp
            with_reducible rfl
           rotate_left
           ·simp only [Act.put, kaa, kab, kac, i64_w, i32_w]
            rfl
           refine one_ (i := 13) (N := some 55) ksq14 rfl rfl (one_of HT_.out (by kernel_rfl)) (by decide) (fun K hK => ?_)
           refine goes_ Try.func37 (by kernel_rfl) rfl #[.agg #[.slice (some ad195) l0_0.length co5, .slice Ao25 y192.length co25, .int .i64 a0_2, .int .i64 a0_3, .int .i64 a0_4], .int .i64 ((rd_T60 l0_0 kap).f0), .int .i64 ((rd_T60 l0_0 kap).f1)] (by rfl) rfl rfl (by (try simp only [List.map_toArray, List.map_cons, List.map_nil]); first | done | rfl) ?_
           with_reducible refine (stowageref08_Wires_IsCut.calls k2 _ _ l0_0 _ _ y192 a0_2 a0_3 a0_4 ((rd_T60 l0_0 kap).f0) ((rd_T60 l0_0 kap).f1) true _ ?side1 ?side2 ?side3 ?side4 A29.out).mono ?_
           (case side1 => repeat (first | exact (Kd.R_reads' HO_183000.out).2.2 | (with_reducible refine Kd.C_alloc ?_ _) | (with_reducible refine Kd.C_drewN ?_ _) | (with_reducible refine Kd.C_drew ?_)))
           (case side2 => exact (Kd.R_reads' HO_183000.out).2.1)
           (case side3 => repeat (first | exact (Kd.R_reads' HO_183001.out).2.2 | (with_reducible refine Kd.C_alloc ?_ _) | (with_reducible refine Kd.C_drewN ?_ _) | (with_reducible refine Kd.C_drew ?_)))
           (case side4 => exact (Kd.R_reads' HO_183001.out).2.1)
           rintro e w34 ⟨rfl, hb⟩
           have HS5_ := (hb.cell (kad _ _ (hHeld.2.2.2.2.2.1))).trans (hHeld.2.2.2.2.2.1)
           have HS6_ := (hb.cell (kad _ _ (hHeld.2.2.2.2.2.2.1))).trans (hHeld.2.2.2.2.2.2.1)
           have HS7_ := (hb.cell (kad _ _ (hHeld.2.2.2.2.2.2.2.1))).trans (hHeld.2.2.2.2.2.2.2.1)
           have HS8_ := (hb.cell (kad _ _ (hHeld.2.2.2.2.2.2.2.2.1))).trans (hHeld.2.2.2.2.2.2.2.2.1)
           have HS9_ := (hb.cell (kad _ _ (hHeld.2.2.2.2.2.2.2.2.2.1))).trans (hHeld.2.2.2.2.2.2.2.2.2.1)
           have HS10_ := (hb.cell (kad _ _ (hHeld.2.2.2.2.2.2.2.2.2.2))).trans (hHeld.2.2.2.2.2.2.2.2.2.2)
           refine ⟨_, rfl, ?_⟩
           have n0_ := kan (Kd.R_below (by (with_reducible repeat (first | apply Kd.R_alloc | apply Kd.R_drewN | apply Kd.R_drew)); exact HO_8.out) hb)
           have n1_ := kan (Kd.R_below (by (with_reducible repeat (first | apply Kd.R_alloc | apply Kd.R_drewN | apply Kd.R_drew)); exact HO_183000.out) hb)
           have n2_ := kan (Kd.R_below (by (with_reducible repeat (first | apply Kd.R_alloc | apply Kd.R_drewN | apply Kd.R_drew)); exact HO_183001.out) hb)
           have n3_ := kan (blk_below (g := kaq) (o := .cells #[.slice (some ad195) l0_0.length co5, .slice Ao25 y192.length co25, .int .i64 a0_2, .int .i64 a0_3, .int .i64 a0_4] 41 (0, 0)) (by (with_reducible repeat (first | refine kae ?_ _ | refine kag ?_ | refine kaf ?_ _)); exact kao.out) hb)
           have n4_ := kan (blk_below (g := kas) (o := .cells #[.slice none 0 0, .slice none 0 0, .int .i64 0, .int .i64 0, .int .i64 0] 41 (0, 0)) (by (with_reducible repeat (first | refine kae ?_ _ | refine kag ?_ | refine kaf ?_ _)); exact kar.out) hb)
           have n5_ := kan (Kept.below (S := (fun k_ => P0_0_ k_ ∨ P0_1_ k_)) (by repeat (first | (with_reducible first | exact HK.out | apply Kept.alloc | apply Kept.drewN | apply Kept.drew | refine Kept.setCell ?_ (.inr kav.out) _ | refine Kept.setCell ?_ (.inr kax.out) _) | exact HK.out)) hb)
           have n6_ := kan (below_step (by repeat (first | (with_reducible first | exact HB.out | apply kak | apply kai | apply kaj | refine kah ?_ kaw.out | refine kah ?_ kay.out) | exact HB.out)) hb)
           clear HO_8
           clear HO_183000
           clear HO_183001
           clear kao
           clear kar
           clear HK
           clear HB
           have HO_8 := n0_
           have HO_183000 := n1_
           have HO_183001 := n2_
           have kao := n3_
           have kar := n4_
           have HK := n5_
           have HB := n6_
           clear n0_ n1_ n2_ n3_ n4_ n5_ n6_
           (try clear hb)
           (try clear hb2)
           (try clear hk)
           (try clear hi)
           refine hK.out _ _ ⟨(kal kao.out 0).trans rfl, (kal kao.out 1).trans rfl, (kal kao.out 2).trans rfl, (kal kao.out 3).trans rfl, (kal kao.out 4).trans rfl, HS5_, HS6_, HS7_, HS8_, HS9_, HS10_⟩ (fun hHeld => ?_)
           clear hK K
           refine norm_ (a' := ?_) ?_ ?_
           rotate_left
           ·show Act.put _ (some 55) _ = _
            simp only [Act.put, kaa, kab, kac, i64_w, i32_w]
            rfl
           refine pure_ (i := 14) (N := some 56) (v := ?_) (a' := ?_) ksq15 rfl rfl (any_of HT_.out (by kernel_rfl)) (fun _ _ _ h => h) (Or.inl ⟨by rfl, ?_⟩) ?_ ?_
           rotate_left
           ·intro w'
            go_simp
            with_reducible rfl
           rotate_left
           ·simp only [Act.put, kaa, kab, kac, i64_w, i32_w]
            rfl
           refine done_ (done_of HT_.out (by kernel_rfl)) ?_
           try go_wp2
           go_roundg k2
           case measure => have := HJ3.out; have := HK2.out; omega
           case rel => exact ⟨(kat), (wrap64 (kap + 1)), (by first | rfl | (simp; done) | (simp [*]; done)), H', ⟨by have := HJ3.out; have := HK2.out; omega⟩, ⟨by (with_reducible repeat (first | apply Kd.R_alloc | apply Kd.R_drewN | apply Kd.R_drew)); exact HO_8.out⟩, ⟨by (with_reducible repeat (first | apply Kd.R_alloc | apply Kd.R_drewN | apply Kd.R_drew)); exact HO_183000.out⟩, ⟨by (with_reducible repeat (first | apply Kd.R_alloc | apply Kd.R_drewN | apply Kd.R_drew)); exact HO_183001.out⟩, ⟨by (with_reducible repeat (first | refine kae ?_ _ | refine kag ?_ | refine kaf ?_ _)); exact kao.out⟩, ⟨by (with_reducible repeat (first | refine kae ?_ _ | refine kag ?_ | refine kaf ?_ _)); exact kar.out⟩, ⟨by repeat (first | (with_reducible first | exact HK.out | apply Kept.alloc | apply Kept.drewN | apply Kept.drew | refine Kept.setCell ?_ (.inr kav.out) _ | refine Kept.setCell ?_ (.inr kax.out) _) | exact HK.out)⟩, ⟨by repeat (first | (with_reducible first | exact HB.out | apply kak | apply kai | apply kaj | refine kah ?_ kaw.out | refine kah ?_ kay.out) | exact HB.out)⟩⟩
          ·replace c30 := Bool.eq_false_iff.mpr c30
           subst c30
           have H1 : (if kat.length < 4398046511104 then (l0 k2 (kat ++ [(⟨(rd_T60 l0_0 kap).f0, (rd_T60 l0_0 kap).f1, (rd_T60 l0_0 kap).f2⟩ : S60)]) (wrap64 (kap + 1)) l0_0 y192 a0_2 a0_3 a0_4) else (none)) = some (r1, r2, r3, r4, r5, r6) := by rw [if_neg (show ¬ (false = true) by decide)] at H; exact H
           clear H
           have H := H1
           clear H1
           by_cases c35 : kat.length < 4398046511104
           ·rw [if_pos c35] at H
            have LMc35 := kan c35
            clear c35
            obtain ⟨y199, hy199⟩ : ∃ y_ : List (S60), y_ = (kat ++ [(⟨(rd_T60 l0_0 kap).f0, (rd_T60 l0_0 kap).f1, (rd_T60 l0_0 kap).f2⟩ : S60)]) := ⟨_, rfl⟩
            replace H : (l0 k2 y199 (wrap64 (kap + 1)) l0_0 y192 a0_2 a0_3 a0_4) = some (r1, r2, r3, r4, r5, r6) := by first | (rw [hy199]; with_reducible exact H) | (have H2_ := (Option.bind_some _ _).symm.trans H; rw [hy199]; with_reducible exact H2_) | (have H2_ := (Option.bind_some _ _).symm.trans H; with_reducible exact H2_) | with_reducible exact H | (rw [hy199]; exact H) | exact H
            have Ny199 := kan hy199
            clear hy199
            have H' := kan H
            clear H
            have hnb36 := kbe.out
            have hnc36 := kaz.out
            have kde : wr.cell? ⟨kaq, 0, none⟩ = some (.slice Ao5 l0_0.length co5) := (kal kao.out 0).trans rfl
            have kdf : wr.cell? ⟨kaq, 1, none⟩ = some (.slice Ao25 y192.length co25) := (kal kao.out 1).trans rfl
            have kdg : wr.cell? ⟨kaq, 2, none⟩ = some (.int .i64 a0_2) := (kal kao.out 2).trans rfl
            have kdh : wr.cell? ⟨kaq, 3, none⟩ = some (.int .i64 a0_3) := (kal kao.out 3).trans rfl
            have kdi : wr.cell? ⟨kaq, 4, none⟩ = some (.int .i64 a0_4) := (kal kao.out 4).trans rfl
            have kdj := kam kao.out 0
            have kdk := kam kao.out 1
            have kdl := kam kao.out 2
            have kdm := kam kao.out 3
            have kdn := kam kao.out 4
            try go_wp2
            have n0_ := kan (Kd.R_drew HO_8.out)
            have n1_ := kan (Kd.R_drew HO_183000.out)
            have n2_ := kan (Kd.R_drew HO_183001.out)
            have n3_ := kan (kag kao.out)
            have n4_ := kan (kag kar.out)
            have n5_ := kan (Kept.drew HK.out)
            have n6_ := kan (kaj HB.out)
            clear HO_8
            clear HO_183000
            clear HO_183001
            clear kao
            clear kar
            clear HK
            clear HB
            have HO_8 := n0_
            have HO_183000 := n1_
            have HO_183001 := n2_
            have kao := n3_
            have kar := n4_
            have HK := n5_
            have HB := n6_
            clear n0_ n1_ n2_ n3_ n4_ n5_ n6_
            have p195 : 0 ≤ (kap : Int) := of_decide_eq_true (by first | (with_reducible assumption) | assumption)
            have q195 : kap < (l0_0.length : Int) := of_decide_eq_true (by first | (with_reducible assumption) | assumption)
            obtain ⟨ad195, e195, hx195_0, hx195_1, hx195_2⟩ := at_T60 (Kd.R_reads' HO_183000.out).2.2 kap p195 q195
            cases e195
            replace p195 := eq_true p195
            replace q195 := eq_true q195
            have p196 : 0 ≤ (kap : Int) := of_decide_eq_true (by first | (with_reducible assumption) | assumption)
            have q196 : kap < (l0_0.length : Int) := of_decide_eq_true (by first | (with_reducible assumption) | assumption)
            obtain ⟨ad196, e196, hx196_0, hx196_1, hx196_2⟩ := at_T60 (Kd.R_reads' HO_183000.out).2.2 kap p196 q196
            obtain rfl : ad195 = ad196 := (by injection e196)
            replace p196 := eq_true p196
            replace q196 := eq_true q196
            refine start_ (n := 15) (S := fun w' => w'.cell? ⟨kaq, 0, none⟩ = some (.slice (some ad195) l0_0.length co5) ∧ w'.cell? ⟨kaq, 1, none⟩ = some (.slice Ao25 y192.length co25) ∧ w'.cell? ⟨kaq, 2, none⟩ = some (.int .i64 a0_2) ∧ w'.cell? ⟨kaq, 3, none⟩ = some (.int .i64 a0_3) ∧ w'.cell? ⟨kaq, 4, none⟩ = some (.int .i64 a0_4) ∧ w'.cell? (ad195.add ((kap).toNat * 3)) = some (.int .i64 ((rd_T60 l0_0 kap).f0)) ∧ w'.cell? ⟨(ad195.add ((kap).toNat * 3)).block, (ad195.add ((kap).toNat * 3)).off + 1, none⟩ = some (.int .i64 ((rd_T60 l0_0 kap).f1)) ∧ w'.cell? ⟨(ad195.add ((kap).toNat * 3)).block, (ad195.add ((kap).toNat * 3)).off + 2, none⟩ = some (.string ((rd_T60 l0_0 kap).f2)) ∧ w'.cell? (ad195.add ((kap).toNat * 3)) = some (.int .i64 ((rd_T60 l0_0 kap).f0)) ∧ w'.cell? ⟨(ad195.add ((kap).toNat * 3)).block, (ad195.add ((kap).toNat * 3)).off + 1, none⟩ = some (.int .i64 ((rd_T60 l0_0 kap).f1)) ∧ w'.cell? ⟨(ad195.add ((kap).toNat * 3)).block, (ad195.add ((kap).toNat * 3)).off + 2, none⟩ = some (.string ((rd_T60 l0_0 kap).f2))) (ds := []) ksq0 (by kernel_rfl) rfl rfl ⟨(kal kao.out 0).trans rfl, (kal kao.out 1).trans rfl, (kal kao.out 2).trans rfl, (kal kao.out 3).trans rfl, (kal kao.out 4).trans rfl, hx195_0, hx195_1, hx195_2, hx196_0, hx196_1, hx196_2⟩ (fun hHeld => ?_); refine with_tabW tab8 bits8 (fun HT_ HW_ => ?_)
            generalize wr.drew = w38 at HO_8 HO_183000 HO_183001 kao kar HK HB hx195_0 hx195_1 hx195_2 hx196_0 hx196_1 hx196_2 hHeld ⊢
            refine pure_ (i := 1) (N := some 43) (v := ?_) (a' := ?_) ksq1 rfl rfl (any_of HT_.out (by kernel_rfl)) (fun _ _ _ h => h) (Or.inl ⟨by rfl, ?_⟩) ?_ ?_
            rotate_left
            ·intro w'
             go_simp
             with_reducible rfl
            rotate_left
            ·simp only [Act.put, kaa, kab, kac, i64_w, i32_w]
             rfl
            refine pure_ (i := 3) (N := some 45) (v := ?_) (a' := ?_) ksq2 rfl rfl (any_of HT_.out (by kernel_rfl)) (fun _ _ _ h => h) (Or.inl ⟨by rfl, ?_⟩) ?_ ?_
            rotate_left
            ·intro w'
             go_simp
             with_reducible rfl
            rotate_left
            ·simp only [Act.put, kaa, kab, kac, i64_w, i32_w]
             rfl
            refine pure_ (i := 7) (N := some 49) (v := ?_) (a' := ?_) ksq3 rfl rfl (any_of HT_.out (by kernel_rfl)) (fun _ _ _ h => h) (Or.inl ⟨by rfl, ?_⟩) ?_ ?_
            rotate_left
            ·intro w'
             go_simp
             with_reducible rfl
            rotate_left
            ·simp only [Act.put, kaa, kab, kac, i64_w, i32_w]
             rfl
            refine pure_ (i := 9) (N := some 51) (v := ?_) (a' := ?_) ksq4 rfl rfl (any_of HT_.out (by kernel_rfl)) (fun _ _ _ h => h) (Or.inl ⟨by rfl, ?_⟩) ?_ ?_
            rotate_left
            ·intro w'
             go_simp
             with_reducible rfl
            rotate_left
            ·simp only [Act.put, kaa, kab, kac, i64_w, i32_w]
             rfl
            refine take_ (i := 0) (N := some 42) (v := ?_) (a' := ?_) ksq5 rfl rfl (take_ofW HT_.out HW_.out (by kernel_rfl)) (fun _ _ _ h => h) (Or.inl ⟨by rfl, ?_⟩) hHeld ?_ ?_
            rotate_left
            ·rintro w' ⟨s0, s1, s2, s3, s4, s5, s6, s7, s8, s9, s10⟩
             go_simp
             with_reducible rfl
            rotate_left
            ·simp only [Act.put, kaa, kab, kac, i64_w, i32_w]
             rfl
            refine take_ (i := 2) (N := some 44) (v := ?_) (a' := ?_) ksq6 rfl rfl (take_ofW HT_.out HW_.out (by kernel_rfl)) (fun _ _ _ h => h) (Or.inl ⟨by rfl, ?_⟩) hHeld ?_ ?_
            rotate_left
            ·rintro w' ⟨s0, s1, s2, s3, s4, s5, s6, s7, s8, s9, s10⟩
             go_simp
             with_reducible rfl
            rotate_left
            ·simp only [Act.put, kaa, kab, kac, i64_w, i32_w]
             rfl
            refine pure_ (i := 4) (N := some 46) (v := ?_) (a' := ?_) ksq7 rfl rfl (any_of HT_.out (by kernel_rfl)) (fun _ _ _ h => h) (Or.inl ⟨by rfl, ?_⟩) ?_ ?_
            rotate_left
            ·intro w'
             go_simp
             with_reducible rfl
            rotate_left
            ·simp only [Act.put, kaa, kab, kac, i64_w, i32_w]
             rfl
            refine pure_ (i := 5) (N := some 47) (v := ?_) (a' := ?_) ksq8 rfl rfl (any_of HT_.out (by kernel_rfl)) (fun _ _ _ h => h) (Or.inl ⟨by rfl, ?_⟩) ?_ ?_
            rotate_left
            ·intro w'
             go_simp
             with_reducible rfl
            rotate_left
            ·simp only [Act.put, kaa, kab, kac, i64_w, i32_w]
             rfl
            refine take_ (i := 6) (N := some 48) (v := ?_) (a' := ?_) ksq9 rfl rfl (take_ofW HT_.out HW_.out (by kernel_rfl)) (fun _ _ _ h => h) (Or.inl ⟨by rfl, ?_⟩) hHeld ?_ ?_
            rotate_left
            ·rintro w' ⟨s0, s1, s2, s3, s4, s5, s6, s7, s8, s9, s10⟩
             go_simp
             with_reducible rfl
            rotate_left
            ·simp only [Act.put, kaa, kab, kac, i64_w, i32_w]
             rfl
            refine take_ (i := 8) (N := some 50) (v := ?_) (a' := ?_) ksq10 rfl rfl (take_ofW HT_.out HW_.out (by kernel_rfl)) (fun _ _ _ h => h) (Or.inl ⟨by rfl, ?_⟩) hHeld ?_ ?_
            rotate_left
            ·rintro w' ⟨s0, s1, s2, s3, s4, s5, s6, s7, s8, s9, s10⟩
             go_simp
             with_reducible rfl
            rotate_left
            ·simp only [Act.put, kaa, kab, kac, i64_w, i32_w]
             rfl
            refine pure_ (i := 10) (N := some 52) (v := ?_) (a' := ?_) ksq11 rfl rfl (any_of HT_.out (by kernel_rfl)) (fun _ _ _ h => h) (Or.inl ⟨by rfl, ?_⟩) ?_ ?_
            rotate_left
            ·intro w'
             go_simp
             with_reducible rfl
            rotate_left
            ·simp only [Act.put, kaa, kab, kac, i64_w, i32_w]
             rfl
            refine pure_ (i := 11) (N := some 53) (v := ?_) (a' := ?_) ksq12 rfl rfl (any_of HT_.out (by kernel_rfl)) (fun _ _ _ h => h) (Or.inl ⟨by rfl, ?_⟩) ?_ ?_
            rotate_left
            ·intro w'
             go_simp
             with_reducible rfl
            rotate_left
            ·simp only [Act.put, kaa, kab, kac, i64_w, i32_w]
             rfl
            refine take_ (i := 12) (N := some 54) (v := ?_) (a' := ?_) ksq13 rfl rfl (take_ofW HT_.out HW_.out (by kernel_rfl)) (fun _ _ _ h => h) (Or.inl ⟨by rfl, ?_⟩) hHeld ?_ ?_
            rotate_left
            ·rintro w' ⟨s0, s1, s2, s3, s4, s5, s6, s7, s8, s9, s10⟩
             go_simp
             with_reducible rfl
            rotate_left
            ·simp only [Act.put, kaa, kab, kac, i64_w, i32_w]
             rfl
            refine one_ (i := 13) (N := some 55) ksq14 rfl rfl (one_of HT_.out (by kernel_rfl)) (by decide) (fun K hK => ?_)
            refine goes_ Try.func37 (by kernel_rfl) rfl #[.agg #[.slice (some ad195) l0_0.length co5, .slice Ao25 y192.length co25, .int .i64 a0_2, .int .i64 a0_3, .int .i64 a0_4], .int .i64 ((rd_T60 l0_0 kap).f0), .int .i64 ((rd_T60 l0_0 kap).f1)] (by rfl) rfl rfl (by (try simp only [List.map_toArray, List.map_cons, List.map_nil]); first | done | rfl) ?_
            with_reducible refine (stowageref08_Wires_IsCut.calls k2 _ _ l0_0 _ _ y192 a0_2 a0_3 a0_4 ((rd_T60 l0_0 kap).f0) ((rd_T60 l0_0 kap).f1) false _ ?side1 ?side2 ?side3 ?side4 A29.out).mono ?_
            (case side1 => repeat (first | exact (Kd.R_reads' HO_183000.out).2.2 | (with_reducible refine Kd.C_alloc ?_ _) | (with_reducible refine Kd.C_drewN ?_ _) | (with_reducible refine Kd.C_drew ?_)))
            (case side2 => exact (Kd.R_reads' HO_183000.out).2.1)
            (case side3 => repeat (first | exact (Kd.R_reads' HO_183001.out).2.2 | (with_reducible refine Kd.C_alloc ?_ _) | (with_reducible refine Kd.C_drewN ?_ _) | (with_reducible refine Kd.C_drew ?_)))
            (case side4 => exact (Kd.R_reads' HO_183001.out).2.1)
            rintro e w39 ⟨rfl, hb⟩
            have HS5_ := (hb.cell (kad _ _ (hHeld.2.2.2.2.2.1))).trans (hHeld.2.2.2.2.2.1)
            have HS6_ := (hb.cell (kad _ _ (hHeld.2.2.2.2.2.2.1))).trans (hHeld.2.2.2.2.2.2.1)
            have HS7_ := (hb.cell (kad _ _ (hHeld.2.2.2.2.2.2.2.1))).trans (hHeld.2.2.2.2.2.2.2.1)
            have HS8_ := (hb.cell (kad _ _ (hHeld.2.2.2.2.2.2.2.2.1))).trans (hHeld.2.2.2.2.2.2.2.2.1)
            have HS9_ := (hb.cell (kad _ _ (hHeld.2.2.2.2.2.2.2.2.2.1))).trans (hHeld.2.2.2.2.2.2.2.2.2.1)
            have HS10_ := (hb.cell (kad _ _ (hHeld.2.2.2.2.2.2.2.2.2.2))).trans (hHeld.2.2.2.2.2.2.2.2.2.2)
            refine ⟨_, rfl, ?_⟩
            have n0_ := kan (Kd.R_below (by (with_reducible repeat (first | apply Kd.R_alloc | apply Kd.R_drewN | apply Kd.R_drew)); exact HO_8.out) hb)
            have n1_ := kan (Kd.R_below (by (with_reducible repeat (first | apply Kd.R_alloc | apply Kd.R_drewN | apply Kd.R_drew)); exact HO_183000.out) hb)
            have n2_ := kan (Kd.R_below (by (with_reducible repeat (first | apply Kd.R_alloc | apply Kd.R_drewN | apply Kd.R_drew)); exact HO_183001.out) hb)
            have n3_ := kan (blk_below (g := kaq) (o := .cells #[.slice (some ad195) l0_0.length co5, .slice Ao25 y192.length co25, .int .i64 a0_2, .int .i64 a0_3, .int .i64 a0_4] 41 (0, 0)) (by (with_reducible repeat (first | refine kae ?_ _ | refine kag ?_ | refine kaf ?_ _)); exact kao.out) hb)
            have n4_ := kan (blk_below (g := kas) (o := .cells #[.slice none 0 0, .slice none 0 0, .int .i64 0, .int .i64 0, .int .i64 0] 41 (0, 0)) (by (with_reducible repeat (first | refine kae ?_ _ | refine kag ?_ | refine kaf ?_ _)); exact kar.out) hb)
            have n5_ := kan (Kept.below (S := (fun k_ => P0_0_ k_ ∨ P0_1_ k_)) (by repeat (first | (with_reducible first | exact HK.out | apply Kept.alloc | apply Kept.drewN | apply Kept.drew | refine Kept.setCell ?_ (.inr kav.out) _ | refine Kept.setCell ?_ (.inr kax.out) _) | exact HK.out)) hb)
            have n6_ := kan (below_step (by repeat (first | (with_reducible first | exact HB.out | apply kak | apply kai | apply kaj | refine kah ?_ kaw.out | refine kah ?_ kay.out) | exact HB.out)) hb)
            clear HO_8
            clear HO_183000
            clear HO_183001
            clear kao
            clear kar
            clear HK
            clear HB
            have HO_8 := n0_
            have HO_183000 := n1_
            have HO_183001 := n2_
            have kao := n3_
            have kar := n4_
            have HK := n5_
            have HB := n6_
            clear n0_ n1_ n2_ n3_ n4_ n5_ n6_
            (try clear hb)
            (try clear hb2)
            (try clear hk)
            (try clear hi)
            refine hK.out _ _ ⟨(kal kao.out 0).trans rfl, (kal kao.out 1).trans rfl, (kal kao.out 2).trans rfl, (kal kao.out 3).trans rfl, (kal kao.out 4).trans rfl, HS5_, HS6_, HS7_, HS8_, HS9_, HS10_⟩ (fun hHeld => ?_)
            clear hK K
            refine norm_ (a' := ?_) ?_ ?_
            rotate_left
            ·show Act.put _ (some 55) _ = _
             simp only [Act.put, kaa, kab, kac, i64_w, i32_w]
             rfl
            refine pure_ (i := 14) (N := some 56) (v := ?_) (a' := ?_) ksq15 rfl rfl (any_of HT_.out (by kernel_rfl)) (fun _ _ _ h => h) (Or.inl ⟨by rfl, ?_⟩) ?_ ?_
            rotate_left
            ·intro w'
             go_simp
             with_reducible rfl
            rotate_left
            ·simp only [Act.put, kaa, kab, kac, i64_w, i32_w]
             rfl
            refine done_ (done_of HT_.out (by kernel_rfl)) ?_
            have kdo : w39.cell? ⟨kaq, 0, none⟩ = some (.slice (some ad195) l0_0.length co5) := (kal kao.out 0).trans rfl
            have kdp : w39.cell? ⟨kaq, 1, none⟩ = some (.slice Ao25 y192.length co25) := (kal kao.out 1).trans rfl
            have kdq : w39.cell? ⟨kaq, 2, none⟩ = some (.int .i64 a0_2) := (kal kao.out 2).trans rfl
            have kdr : w39.cell? ⟨kaq, 3, none⟩ = some (.int .i64 a0_3) := (kal kao.out 3).trans rfl
            have kds : w39.cell? ⟨kaq, 4, none⟩ = some (.int .i64 a0_4) := (kal kao.out 4).trans rfl
            have kdt := kam kao.out 0
            have kdu := kam kao.out 1
            have kdv := kam kao.out 2
            have kdw := kam kao.out 3
            have kdx := kam kao.out 4
            have p198 : 0 ≤ (kap : Int) := of_decide_eq_true (by first | (with_reducible assumption) | assumption)
            have q198 : kap < (l0_0.length : Int) := of_decide_eq_true (by first | (with_reducible assumption) | assumption)
            obtain ⟨ad198, e198, hx198_0, hx198_1, hx198_2⟩ := at_T60 (Kd.R_reads' HO_183000.out).2.2 kap p198 q198
            obtain rfl : ad195 = ad198 := (by injection e198)
            replace p198 := eq_true p198
            replace q198 := eq_true q198
            try go_wp2_with (first | ((with_reducible refine gate_builtin (b := .append) (xs := #[.tmp 57, .tmp 63]) rfl ?_); at_builtin; refine Kd.R_append k60 (w0 := w0) w0.heap.size rfl (.tmp 57) (.tmp 63) 38 60 (.agg #[(.int .i64 0), (.int .i64 0), (.string ⟨#[]⟩)]) 32 rfl Try.underlying38 info60 rfl (by decide) (by omega) u8 kat (⟨(rd_T60 l0_0 kap).f0, (rd_T60 l0_0 kap).f1, (rd_T60 l0_0 kap).f2⟩ : S60) [.int .i64 ((rd_T60 l0_0 kap).f0), .int .i64 ((rd_T60 l0_0 kap).f1), .string ((rd_T60 l0_0 kap).f2)] (fun k_ => ((P0_0_ k_ ∨ P0_1_ k_) ∨ w.heap.size ≤ k_) ∧ some k_ ≠ (.slice (some ad195) l0_0.length co5 : Value).ownBlock) (fun _ => False) rfl rfl ?aP (fun _ hk => hk.elim) ?aF ?aO ?aB ?aS ?aL ?_; (case aP => exact k60_mkM _ _ _ (⟨(rd_T60 l0_0 kap).f0, (rd_T60 l0_0 kap).f1, (rd_T60 l0_0 kap).f2⟩ : S60)); (case aB => exact (by repeat (first | (with_reducible first | exact HB.out | apply kak | apply kai | apply kaj | refine kah ?_ kaw.out | refine kah ?_ kay.out) | exact HB.out))); (case aF => exact (fun k_ hk => ⟨(.inr (Nat.le_trans (by first | exact HK.out.1 | exact (show Kept w _ (fun k_ => P0_0_ k_ ∨ P0_1_ k_) from by repeat (first | (with_reducible first | exact HK.out | apply Kept.alloc | apply Kept.drewN | apply Kept.drew | refine Kept.setCell ?_ (.inr kav.out) _ | refine Kept.setCell ?_ (.inr kax.out) _) | exact HK.out)).1) hk)), Kd.fresh' (Kd.R_lt (by (with_reducible repeat (first | apply Kd.R_alloc | apply Kd.R_drewN | apply Kd.R_drew)); exact HO_183000.out)) k_ hk⟩)); (case aO => exact (by (with_reducible repeat (first | apply Kd.R_alloc | apply Kd.R_drewN | apply Kd.R_drew)); exact HO_8.out)); (case aS => exact (below_size (by repeat (first | (with_reducible first | exact HB.out | apply kak | apply kai | apply kaj | refine kah ?_ kaw.out | refine kah ?_ kay.out) | exact HB.out)))); (case aL => have := LMc35.out; omega); intro v200 w41 ho hb hg hat; rw [← Ny199.out] at ho; have n0_ := kan (Kd.R_after (ok := (fun k_ => ((P0_0_ k_ ∨ P0_1_ k_) ∨ w.heap.size ≤ k_))) (by (with_reducible repeat (first | apply Kd.R_alloc | apply Kd.R_drewN | apply Kd.R_drew)); exact HO_183000.out) hg hat); have n1_ := kan (Kd.R_over' (by (with_reducible repeat (first | apply Kd.R_alloc | apply Kd.R_drewN | apply Kd.R_drew)); exact HO_183001.out) (Kd.R_typed (by (with_reducible repeat (first | apply Kd.R_alloc | apply Kd.R_drewN | apply Kd.R_drew)); exact HO_8.out)) (by decide) hg); have n2_ := kan (blk_grown (g := kaq) (o := .cells #[.slice (some ad195) l0_0.length co5, .slice Ao25 y192.length co25, .int .i64 a0_2, .int .i64 a0_3, .int .i64 a0_4] 41 (0, 0)) (by (with_reducible repeat (first | refine kae ?_ _ | refine kag ?_ | refine kaf ?_ _)); exact kao.out) hg (Kd.R_ne HO_8.out kao.out (by decide))); have n3_ := kan (blk_grown (g := kas) (o := .cells #[.slice none 0 0, .slice none 0 0, .int .i64 0, .int .i64 0, .int .i64 0] 41 (0, 0)) (by (with_reducible repeat (first | refine kae ?_ _ | refine kag ?_ | refine kaf ?_ _)); exact kar.out) hg (Kd.R_ne HO_8.out kar.out (by decide))); have n4_ := kan (hb); have n5_ := kan (Kept.of_grown (S := (fun k_ => P0_0_ k_ ∨ P0_1_ k_)) hg (by repeat (first | (with_reducible first | exact HK.out | apply Kept.alloc | apply Kept.drewN | apply Kept.drew | refine Kept.setCell ?_ (.inr kav.out) _ | refine Kept.setCell ?_ (.inr kax.out) _) | exact HK.out)) (fun k_ e_ => (HO_8.out.1 k_ e_).1)); have n6_ := kan (ho); clear HO_183000; clear HO_183001; clear kao; clear kar; clear HB; clear HK; clear HO_8; have HO_183000 := n0_; have HO_183001 := n1_; have kao := n2_; have kar := n3_; have HB := n4_; have HK := n5_; have HO201 := n6_; clear n0_ n1_ n2_ n3_ n4_ n5_ n6_; clear ho hb hg hat))
            go_roundg k2
            case measure => have := HJ3.out; have := HK2.out; omega
            case rel => exact ⟨(y199), (wrap64 (kap + 1)), (by first | rfl | (simp; done) | (simp [*]; done)), H', ⟨by have := HJ3.out; have := HK2.out; omega⟩, ⟨by (with_reducible repeat (first | apply Kd.R_alloc | apply Kd.R_drewN | apply Kd.R_drew)); exact HO201.out⟩, ⟨by (with_reducible repeat (first | apply Kd.R_alloc | apply Kd.R_drewN | apply Kd.R_drew)); exact HO_183000.out⟩, ⟨by (with_reducible repeat (first | apply Kd.R_alloc | apply Kd.R_drewN | apply Kd.R_drew)); exact HO_183001.out⟩, ⟨by (with_reducible repeat (first | refine kae ?_ _ | refine kag ?_ | refine kaf ?_ _)); exact kao.out⟩, ⟨by (with_reducible repeat (first | refine kae ?_ _ | refine kag ?_ | refine kaf ?_ _)); exact kar.out⟩, ⟨by repeat (first | (with_reducible first | exact HK.out | apply Kept.alloc | apply Kept.drewN | apply Kept.drew | refine Kept.setCell ?_ (.inr kav.out) _ | refine Kept.setCell ?_ (.inr kax.out) _) | exact HK.out)⟩, ⟨by repeat (first | (with_reducible first | exact HB.out | apply kak | apply kai | apply kaj | refine kah ?_ kaw.out | refine kah ?_ kay.out) | exact HB.out)⟩⟩
           ·rw [if_neg c35] at H
            exact absurd H (by simp)
         ·rw [if_neg c28] at H
          exact absurd H (by simp)
        ·rw [if_neg c27] at H
         have c27b0 : decide (kap < (l0_0.length : Int)) = false := decide_eq_false c27
         clear c27
         simp only [Option.some.injEq, Prod.mk.injEq] at H
         obtain ⟨rfl, rfl, rfl, rfl, rfl, rfl⟩ := H
         have hnb42 := kbe.out
         have hnc42 := kaz.out
         have kdy : wr.cell? ⟨kaq, 0, none⟩ = some (.slice Ao5 l0_0.length co5) := (kal kao.out 0).trans rfl
         have kdz : wr.cell? ⟨kaq, 1, none⟩ = some (.slice Ao25 y192.length co25) := (kal kao.out 1).trans rfl
         have kea : wr.cell? ⟨kaq, 2, none⟩ = some (.int .i64 a0_2) := (kal kao.out 2).trans rfl
         have keb : wr.cell? ⟨kaq, 3, none⟩ = some (.int .i64 a0_3) := (kal kao.out 3).trans rfl
         have kec : wr.cell? ⟨kaq, 4, none⟩ = some (.int .i64 a0_4) := (kal kao.out 4).trans rfl
         have ked := kam kao.out 0
         have kee := kam kao.out 1
         have kef := kam kao.out 2
         have keg := kam kao.out 3
         have keh := kam kao.out 4
         obtain ⟨Ao44, co44, eo44⟩ := Kd.R_slice HO_8.out
         subst eo44
         have kei : wr.cell? ⟨kas, 0, none⟩ = some (.slice none 0 0) := (kal kar.out 0).trans rfl
         have kej : wr.cell? ⟨kas, 1, none⟩ = some (.slice none 0 0) := (kal kar.out 1).trans rfl
         have kek : wr.cell? ⟨kas, 2, none⟩ = some (.int .i64 0) := (kal kar.out 2).trans rfl
         have kel : wr.cell? ⟨kas, 3, none⟩ = some (.int .i64 0) := (kal kar.out 3).trans rfl
         have kem : wr.cell? ⟨kas, 4, none⟩ = some (.int .i64 0) := (kal kar.out 4).trans rfl
         have ken := kam kar.out 0
         have keo := kam kar.out 1
         have kep := kam kar.out 2
         have keq := kam kar.out 3
         have ker := kam kar.out 4
         go_wp2
         refine bodyPost_ret (results_ct rfl _ _ kas 41 #[.slice Ao44 kat.length co44, .slice Ao25 y192.length co25, .int .i64 a0_2, .int .i64 a0_3, .int .i64 (wrap64 (a0_4 + (wrap64 ((l0_0.length : Int) - (kat.length : Int)))))] (0, 0) _ rfl (by (with_reducible repeat (first | refine kae ?_ _ | refine kag ?_ | refine kaf ?_ _)); refine blk_put (cs := #[.slice Ao44 kat.length co44, .slice Ao25 y192.length co25, .int .i64 a0_2, .int .i64 a0_3, .int .i64 0]) ?_ 4 _ rfl; (with_reducible repeat (first | refine kae ?_ _ | refine kag ?_ | refine kaf ?_ _)); refine blk_put (cs := #[.slice Ao44 kat.length co44, .slice Ao25 y192.length co25, .int .i64 a0_2, .int .i64 0, .int .i64 0]) ?_ 3 _ rfl; (with_reducible repeat (first | refine kae ?_ _ | refine kag ?_ | refine kaf ?_ _)); refine blk_put (cs := #[.slice Ao44 kat.length co44, .slice Ao25 y192.length co25, .int .i64 0, .int .i64 0, .int .i64 0]) ?_ 2 _ rfl; (with_reducible repeat (first | refine kae ?_ _ | refine kag ?_ | refine kaf ?_ _)); refine blk_put (cs := #[.slice Ao44 kat.length co44, .slice none 0 0, .int .i64 0, .int .i64 0, .int .i64 0]) ?_ 1 _ rfl; (with_reducible repeat (first | refine kae ?_ _ | refine kag ?_ | refine kaf ?_ _)); refine blk_put (cs := #[.slice none 0 0, .slice none 0 0, .int .i64 0, .int .i64 0, .int .i64 0]) ?_ 0 _ rfl; (with_reducible repeat (first | refine kae ?_ _ | refine kag ?_ | refine kaf ?_ _)); refine blk_far ?_ kaz.out _; (with_reducible repeat (first | refine kae ?_ _ | refine kag ?_ | refine kaf ?_ _)); refine blk_far ?_ kaz.out _; (with_reducible repeat (first | refine kae ?_ _ | refine kag ?_ | refine kaf ?_ _)); exact kar.out) Try.underlying41 rfl (by kernel_rfl)) rfl ?_
         exact ⟨_, _, by first | rfl | (simp [errW_none, errW_some] <;> rfl) | (simp [*, errW_none, errW_some] <;> rfl), by (with_reducible repeat (first | apply Kd.R_alloc | apply Kd.R_drewN | apply Kd.R_drew)); exact Kd.R_mono (Kd.R_far (p := ⟨kas, 4, none⟩) (Kd.R_far (p := ⟨kas, 3, none⟩) (Kd.R_far (p := ⟨kas, 2, none⟩) (Kd.R_far (p := ⟨kas, 1, none⟩) (Kd.R_far (p := ⟨kas, 0, none⟩) (Kd.R_far (p := ⟨kaq, 4, none⟩) (Kd.R_far (p := ⟨kaq, 0, none⟩) (Kd.R_types (Kd.R_types HO_8.out kao.out (by decide)) kar.out (by decide)) (fun _ hk => hk.1.2) (.slice Ao44 kat.length co44)) (fun _ hk => hk.1.2) (.int .i64 (wrap64 (a0_4 + (wrap64 ((l0_0.length : Int) - (kat.length : Int))))))) (fun _ hk => hk.2) (.slice Ao44 kat.length co44)) (fun _ hk => hk.2) (.slice Ao25 y192.length co25)) (fun _ hk => hk.2) (.int .i64 a0_2)) (fun _ hk => hk.2) (.int .i64 a0_3)) (fun _ hk => hk.2) (.int .i64 (wrap64 (a0_4 + (wrap64 ((l0_0.length : Int) - (kat.length : Int))))))) (fun _ hk => hk.1.1.1), by (with_reducible repeat (first | apply Kd.R_alloc | apply Kd.R_drewN | apply Kd.R_drew)); exact Kd.R_mono (Kd.R_far (p := ⟨kas, 4, none⟩) (Kd.R_far (p := ⟨kas, 3, none⟩) (Kd.R_far (p := ⟨kas, 2, none⟩) (Kd.R_far (p := ⟨kas, 1, none⟩) (Kd.R_far (p := ⟨kas, 0, none⟩) (Kd.R_far (p := ⟨kaq, 4, none⟩) (Kd.R_far (p := ⟨kaq, 0, none⟩) (Kd.R_types (Kd.R_types HO_183001.out kao.out (by decide)) kar.out (by decide)) (fun _ hk => hk.1.2) (.slice Ao44 kat.length co44)) (fun _ hk => hk.1.2) (.int .i64 (wrap64 (a0_4 + (wrap64 ((l0_0.length : Int) - (kat.length : Int))))))) (fun _ hk => hk.2) (.slice Ao44 kat.length co44)) (fun _ hk => hk.2) (.slice Ao25 y192.length co25)) (fun _ hk => hk.2) (.int .i64 a0_2)) (fun _ hk => hk.2) (.int .i64 a0_3)) (fun _ hk => hk.2) (.int .i64 (wrap64 (a0_4 + (wrap64 ((l0_0.length : Int) - (kat.length : Int))))))) (fun _ hk => hk.1.1), by repeat (first | (with_reducible first | exact HB.out | apply kak | apply kai | apply kaj | refine kah ?_ kaw.out | refine kah ?_ kay.out) | exact HB.out), by repeat (first | (with_reducible first | exact HK.out | apply Kept.alloc | apply Kept.drewN | apply Kept.drew | refine Kept.setCell ?_ (.inr kav.out) _ | refine Kept.setCell ?_ (.inr kax.out) _) | exact HK.out)⟩
     ·rw [if_neg c18] at H
      exact absurd H (by simp)
    ·rw [if_neg c17] at H
     exact absurd H (by simp)

end Go.Proofs.Ytodkackgdchocaa.Q
