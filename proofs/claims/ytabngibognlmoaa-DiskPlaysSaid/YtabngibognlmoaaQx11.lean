

/- Written by a program of this session (wip/patch_print.py over the kit's print): functions of the given program as plain Lean functions, and that each call does what its function says, under no further conditions. -/
import Derived.Test.YtabngibognlmoaaQx0
import Derived.Test.YtabngibognlmoaaQx10
namespace Go.Proofs.Ytabngibognlmoaa.Q
open Go.RowKit Go.Proofs.YtabngibognlmoaaW.PrintWords Go.Proofs.YtabngibognlmoaaW.PrintLast Go.Proofs.YtabngibognlmoaaW.PrintMore
attribute [local go_sem] max2_int min2_int max_two min_two max_three min_three max_four min_four   -- for this text's walks alone
set_option linter.unusedVariables false
set_option linter.unusedSimpArgs false
attribute [local go_sem] xor_ones_u8 xor_ones_u16 xor_ones_u32 xor_ones_u64 cell_twice frozen_twice
abbrev zlaa := @blk_drewN
abbrev zlab := @blk_alloc
abbrev zlac := @blk_drew
abbrev zlad := @below_set
abbrev zlae := @pw_below_drewN
abbrev zlaf := @below_drew1
abbrev zlag := @below_alloc
abbrev zlah := @blk_cell
abbrev zlai := @blk_frozen
abbrev zlaj := @Aside0.mk
/-! ### stowageref04_Disk_Fail: function 47 -/
mutual
def stowageref04_Disk_Fail.l0 : Nat → Int → Int → Int → List (S48) → List (S86) → Int → Bool → List (S90) → Int → Option ((List (S48)) × (List (S86)) × Int × Bool × (List (S90)) × Int)
 | 0, _, _, _, _, _, _, _, _, _ => none
 | k + 1, x1, x2, x7, zlay, zlaq, zlaz, zlbc, zlba, zlbb => if x7 < (zlaq.length : Int) then (if 0 ≤ x7 then (if x7 ≥ x1 then (if x7 > x1 then (if x1 ≥ 0 then (stowageref04_Disk_Fail.j1 k x1 x2 x7 true zlay zlaq zlaz zlbc zlba zlbb ((rd_T86 zlaq x7).f0) ((rd_T86 zlaq x7).f1) ((rd_T86 zlaq x7).f2) ((rd_T86 zlaq x7).f3) ((rd_T86 zlaq x7).f4)) else (if x7 > 0 then (if x1 < 0 then (stowageref04_Disk_Fail.j1 k x1 x2 x7 true zlay zlaq zlaz zlbc zlba zlbb ((rd_T86 zlaq x7).f0) ((rd_T86 zlaq x7).f1) ((rd_T86 zlaq x7).f2) ((rd_T86 zlaq x7).f3) ((rd_T86 zlaq x7).f4)) else (if x2 ≤ 0 then (stowageref04_Disk_Fail.j1 k x1 x2 x7 true zlay zlaq zlaz zlbc zlba zlbb ((rd_T86 zlaq x7).f0) ((rd_T86 zlaq x7).f1) ((rd_T86 zlaq x7).f2) ((rd_T86 zlaq x7).f3) ((rd_T86 zlaq x7).f4)) else (stowageref04_Disk_Fail.j1 k x1 x2 x7 (decide (((rd_T86 zlaq x7).f0) > 1)) zlay zlaq zlaz zlbc zlba zlbb ((rd_T86 zlaq x7).f0) ((rd_T86 zlaq x7).f1) ((rd_T86 zlaq x7).f2) ((rd_T86 zlaq x7).f3) ((rd_T86 zlaq x7).f4)))) else (if x2 ≤ 0 then (stowageref04_Disk_Fail.j1 k x1 x2 x7 true zlay zlaq zlaz zlbc zlba zlbb ((rd_T86 zlaq x7).f0) ((rd_T86 zlaq x7).f1) ((rd_T86 zlaq x7).f2) ((rd_T86 zlaq x7).f3) ((rd_T86 zlaq x7).f4)) else (stowageref04_Disk_Fail.j1 k x1 x2 x7 (decide (((rd_T86 zlaq x7).f0) > 1)) zlay zlaq zlaz zlbc zlba zlbb ((rd_T86 zlaq x7).f0) ((rd_T86 zlaq x7).f1) ((rd_T86 zlaq x7).f2) ((rd_T86 zlaq x7).f3) ((rd_T86 zlaq x7).f4))))) else (if x7 > 0 then (if x1 < 0 then (stowageref04_Disk_Fail.j1 k x1 x2 x7 true zlay zlaq zlaz zlbc zlba zlbb ((rd_T86 zlaq x7).f0) ((rd_T86 zlaq x7).f1) ((rd_T86 zlaq x7).f2) ((rd_T86 zlaq x7).f3) ((rd_T86 zlaq x7).f4)) else (if x2 ≤ 0 then (stowageref04_Disk_Fail.j1 k x1 x2 x7 true zlay zlaq zlaz zlbc zlba zlbb ((rd_T86 zlaq x7).f0) ((rd_T86 zlaq x7).f1) ((rd_T86 zlaq x7).f2) ((rd_T86 zlaq x7).f3) ((rd_T86 zlaq x7).f4)) else (stowageref04_Disk_Fail.j1 k x1 x2 x7 (decide (((rd_T86 zlaq x7).f0) > 1)) zlay zlaq zlaz zlbc zlba zlbb ((rd_T86 zlaq x7).f0) ((rd_T86 zlaq x7).f1) ((rd_T86 zlaq x7).f2) ((rd_T86 zlaq x7).f3) ((rd_T86 zlaq x7).f4)))) else (if x2 ≤ 0 then (stowageref04_Disk_Fail.j1 k x1 x2 x7 true zlay zlaq zlaz zlbc zlba zlbb ((rd_T86 zlaq x7).f0) ((rd_T86 zlaq x7).f1) ((rd_T86 zlaq x7).f2) ((rd_T86 zlaq x7).f3) ((rd_T86 zlaq x7).f4)) else (stowageref04_Disk_Fail.j1 k x1 x2 x7 (decide (((rd_T86 zlaq x7).f0) > 1)) zlay zlaq zlaz zlbc zlba zlbb ((rd_T86 zlaq x7).f0) ((rd_T86 zlaq x7).f1) ((rd_T86 zlaq x7).f2) ((rd_T86 zlaq x7).f3) ((rd_T86 zlaq x7).f4))))) else (stowageref04_Disk_Fail.j1 k x1 x2 x7 false zlay zlaq zlaz zlbc zlba zlbb ((rd_T86 zlaq x7).f0) ((rd_T86 zlaq x7).f1) ((rd_T86 zlaq x7).f2) ((rd_T86 zlaq x7).f3) ((rd_T86 zlaq x7).f4))) else (none)) else (some (zlay, ([] : List (S86)), zlaz, true, zlba, zlbb))
def stowageref04_Disk_Fail.j1 : Nat → Int → Int → Int → Bool → List (S48) → List (S86) → Int → Bool → List (S90) → Int → Int → ByteArray → ByteArray → ByteArray → Int → Option ((List (S48)) × (List (S86)) × Int × Bool × (List (S90)) × Int)
 | 0, _, _, _, _, _, _, _, _, _, _, _, _, _, _, _ => none
 | k + 1, x1, x2, x7, x52, zlay, zlaq, zlaz, zlbc, zlba, zlbb, zlbj, zlbk, zlbl, zlbh, zlbm => if x52 = true then (some (zlay, ([] : List (S86)), zlaz, true, zlba, zlbb)) else (if x7 ≥ x1 then (if 0 ≤ (mn x2 (zlbh.size : Int)) then (if (mn x2 (zlbh.size : Int)) ≤ (zlbh.size : Int) then ((stowageref04_Do.f k zlay zlbj zlbk zlbl (zlbh.extract 0 ((mn x2 (zlbh.size : Int)) : Int).toNat) zlbm).bind fun t286 => (stowageref04_Disk_Fail.l0 k x1 x2 (wrap64 (x7 + 1)) t286 zlaq zlaz zlbc zlba zlbb)) else (none)) else (none)) else ((stowageref04_Do.f k zlay zlbj zlbk zlbl zlbh zlbm).bind fun t289 => (stowageref04_Disk_Fail.l0 k x1 x2 (wrap64 (x7 + 1)) t289 zlaq zlaz zlbc zlba zlbb)))
end
def stowageref04_Disk_Fail.f (k : Nat) (l0_0 : List (S48)) (l0_1 : List (S86)) (a0_2 : Int) (a0_3 : Bool) (l0_4 : List (S90)) (a0_5 : Int) (a1 : Int) (a2 : Int) : Option ((List (S48)) × (List (S86)) × Int × Bool × (List (S90)) × Int) := if a0_3 = true then (some (l0_0, l0_1, a0_2, a0_3, l0_4, a0_5)) else (stowageref04_Disk_Fail.l0 k a1 a2 0 l0_0 l0_1 a0_2 a0_3 l0_4 a0_5)
set_option maxHeartbeats 8000000 in
set_option maxRecDepth 100000 in
theorem stowageref04_Disk_Fail.calls (k : Nat) (P0_0_ : Nat → Prop) (A0_0 : Option Addr) (c0_0 : Nat) (l0_0 : List (S48)) (P0_1_ : Nat → Prop) (A0_1 : Option Addr) (c0_1 : Nat) (l0_1 : List (S86)) (a0_2 : Int) (a0_3 : Bool) (P0_4_ : Nat → Prop) (A0_4 : Option Addr) (c0_4 : Nat) (l0_4 : List (S90)) (a0_5 : Int) (a1 : Int) (a2 : Int) (r1 : List (S48)) (r2 : List (S86)) (r3 : Int) (r4 : Bool) (r5 : List (S90)) (r6 : Int) (w : World) (hs0_0 : Kd.V k48 48 w w.heap.size (fun k_ => P0_0_ k_) (.slice A0_0 l0_0.length c0_0) l0_0) (hs0_1 : Kd.V k86 86 w w.heap.size (fun k_ => P0_1_ k_) (.slice A0_1 l0_1.length c0_1) l0_1) (hs0_4 : Kd.V k90 90 w w.heap.size (fun k_ => P0_4_ k_) (.slice A0_4 l0_4.length c0_4) l0_4) (h : stowageref04_Disk_Fail.f k l0_0 l0_1 a0_2 a0_3 l0_4 a0_5 a1 a2 = some (r1, r2, r3, r4, r5, r6)) :
  Calls Try.prog 47 #[.agg #[.slice A0_0 l0_0.length c0_0, .slice A0_1 l0_1.length c0_1, .int .i64 a0_2, .bool a0_3, .slice A0_4 l0_4.length c0_4, .int .i64 a0_5], .int .i64 a1, .int .i64 a2] w fun e w' => ∃ v0_ v1_ v4_ : Value, e = .returned (.agg #[v0_, v1_, .int .i64 r3, .bool r4, v4_, .int .i64 r6]) ∧ Kd.V k48 48 w' w.heap.size (fun k_ => ((P0_0_ k_ ∨ P0_1_ k_ ∨ P0_4_ k_) ∨ w.heap.size ≤ k_)) v0_ r1 ∧ Kd.V k86 86 w' w.heap.size (fun k_ => ((P0_0_ k_ ∨ P0_1_ k_ ∨ P0_4_ k_) ∨ w.heap.size ≤ k_)) v1_ r2 ∧ Kd.V k90 90 w' w.heap.size (fun k_ => ((P0_0_ k_ ∨ P0_1_ k_ ∨ P0_4_ k_) ∨ w.heap.size ≤ k_)) v4_ r5 ∧ Below w.heap.size w w' := by
 have hu57 := Try.underlying57
 have hu86 := Try.underlying86
 have HO0_0 := zlaj (show Kd.V k48 48 w w.heap.size (fun k_ => ((P0_0_ k_ ∨ P0_1_ k_ ∨ P0_4_ k_) ∨ w.heap.size ≤ k_)) (.slice A0_0 l0_0.length c0_0) l0_0 from Kd.V_mono hs0_0 (fun k_ hk => .inl (.inl hk)))
 have HO0_1 := zlaj (show Kd.V k86 86 w w.heap.size (fun k_ => ((P0_0_ k_ ∨ P0_1_ k_ ∨ P0_4_ k_) ∨ w.heap.size ≤ k_)) (.slice A0_1 l0_1.length c0_1) l0_1 from Kd.V_mono hs0_1 (fun k_ hk => .inl (.inr (.inl hk))))
 have HO0_4 := zlaj (show Kd.V k90 90 w w.heap.size (fun k_ => ((P0_0_ k_ ∨ P0_1_ k_ ∨ P0_4_ k_) ∨ w.heap.size ≤ k_)) (.slice A0_4 l0_4.length c0_4) l0_4 from Kd.V_mono hs0_4 (fun k_ hk => .inl (.inr (.inr hk))))
 have HB := zlaj (Below.refl w.heap.size w)
 have H : (if a0_3 = true then (some (l0_0, l0_1, a0_2, a0_3, l0_4, a0_5)) else (stowageref04_Disk_Fail.l0 k a1 a2 0 l0_0 l0_1 a0_2 a0_3 l0_4 a0_5)) = some (r1, r2, r3, r4, r5, r6) := h
 clear h
 by_cases c4 : a0_3 = true
 ·subst c4
  have H1 : (some (l0_0, l0_1, a0_2, true, l0_4, a0_5)) = some (r1, r2, r3, r4, r5, r6) := by rw [if_pos rfl] at H; exact H
  clear H
  have H := H1
  clear H1
  simp only [Option.some.injEq, Prod.mk.injEq] at H
  obtain ⟨rfl, rfl, rfl, rfl, rfl, rfl⟩ := H
  go_enter Try.func47, Try.ntmps47
  go_wp2_with (first | ((with_reducible refine gate_dst (N := 3) rfl ?_); refine box_event ?hg (N := 3) ?hd (cs := #[.slice A0_0 l0_0.length c0_0, .slice A0_1 l0_1.length c0_1, .int .i64 a0_2, .bool true, .slice A0_4 l0_4.length c0_4, .int .i64 a0_5]) (t := 57) ?hr ?_; (case hd => rfl); (case hg => rfl); (case hr => first | (go_simp; done) | (go_simp; rfl)); intro zlap hg w5 hbox hb; have n0_ := zlaj (Kd.V_below (Kd.V_elderB (zvk HO0_0) zlap (Nat.le_of_eq hg.symm)) hb); have n1_ := zlaj (Kd.V_below (Kd.V_elderB (zvk HO0_1) zlap (Nat.le_of_eq hg.symm)) hb); have n2_ := zlaj (Kd.V_below (Kd.V_elderB (zvk HO0_4) zlap (Nat.le_of_eq hg.symm)) hb); have n3_ := zlaj (below_step (by repeat (first | (with_reducible first | exact HB.out | apply zlag | apply zlae | apply zlaf) | exact HB.out)) hb); have n4_ := zlaj (hbox); have n5_ := zlaj ((by rw [hg]; exact (below_size (by repeat (first | (with_reducible first | exact HB.out | apply zlag | apply zlae | apply zlaf) | exact HB.out))) : w.heap.size ≤ zlap)); have n6_ := zlaj ((by rw [hg]; exact (below_size (by repeat (first | (with_reducible first | exact HB.out | apply zlag | apply zlae | apply zlaf) | exact HB.out))) : w.heap.size ≤ zlap)); clear HO0_0; clear HO0_1; clear HO0_4; clear HB; have HO0_0 := n0_; have HO0_1 := n1_; have HO0_4 := n2_; have HB := n3_; have zlam := n4_; have zlfh := n5_; have zlav := n6_; clear n0_ n1_ n2_ n3_ n4_ n5_ n6_; clear hb hbox hg) | ((with_reducible refine gate_dst (N := 6) rfl ?_); refine box_event ?hg (N := 6) ?hd (cs := #[.slice none 0 0, .slice none 0 0, .int .i64 0, .bool false, .slice none 0 0, .int .i64 0]) (t := 57) ?hr ?_; (case hd => rfl); (case hg => rfl); (case hr => first | (go_simp; done) | (go_simp; rfl)); intro zlar hg w6 hbox hb; have n0_ := zlaj (Kd.V_below (Kd.V_elderB (zvk HO0_0) zlar (Nat.le_of_eq hg.symm)) hb); have n1_ := zlaj (Kd.V_below (Kd.V_elderB (zvk HO0_1) zlar (Nat.le_of_eq hg.symm)) hb); have n2_ := zlaj (Kd.V_below (Kd.V_elderB (zvk HO0_4) zlar (Nat.le_of_eq hg.symm)) hb); have n3_ := zlaj (blk_below (g := zlap) (o := .cells #[.slice A0_0 l0_0.length c0_0, .slice A0_1 l0_1.length c0_1, .int .i64 a0_2, .bool true, .slice A0_4 l0_4.length c0_4, .int .i64 a0_5] 57 (0, 0)) (zbk zlam) hb); have n4_ := zlaj (below_step (by repeat (first | (with_reducible first | exact HB.out | apply zlag | apply zlae | apply zlaf | refine zlad ?_ zlav.out) | exact HB.out)) hb); have n5_ := zlaj (hbox); have n6_ := zlaj ((by rw [hg]; exact (below_size (by repeat (first | (with_reducible first | exact HB.out | apply zlag | apply zlae | apply zlaf | refine zlad ?_ zlav.out) | exact HB.out))) : w.heap.size ≤ zlar)); have n7_ := zlaj ((by rw [hg]; exact (below_size (by repeat (first | (with_reducible first | exact HB.out | apply zlag | apply zlae | apply zlaf | refine zlad ?_ zlav.out) | exact HB.out))) : w.heap.size ≤ zlar)); have n8_ := zlaj ((by rw [hg]; exact Nat.ne_of_lt (blk_lt (g := zlap) (o := .cells #[.slice A0_0 l0_0.length c0_0, .slice A0_1 l0_1.length c0_1, .int .i64 a0_2, .bool true, .slice A0_4 l0_4.length c0_4, .int .i64 a0_5] 57 (0, 0)) (zbk zlam)) : zlap ≠ zlar)); have n9_ := zlaj ((by rw [hg]; exact Nat.ne_of_gt (blk_lt (g := zlap) (o := .cells #[.slice A0_0 l0_0.length c0_0, .slice A0_1 l0_1.length c0_1, .int .i64 a0_2, .bool true, .slice A0_4 l0_4.length c0_4, .int .i64 a0_5] 57 (0, 0)) (zbk zlam)) : zlar ≠ zlap)); clear HO0_0; clear HO0_1; clear HO0_4; clear zlam; clear HB; have HO0_0 := n0_; have HO0_1 := n1_; have HO0_4 := n2_; have zlam := n3_; have HB := n4_; have zlat := n5_; have zlfi := n6_; have zlaw := n7_; have zlbe := n8_; have zlax := n9_; clear n0_ n1_ n2_ n3_ n4_ n5_ n6_ n7_ n8_ n9_; clear hb hbox hg; have hnb7 := zlbe.out; have hnc7 := zlax.out; have zlbz : w6.cell? ⟨zlap, 0, none⟩ = some (.slice A0_0 l0_0.length c0_0) := (zlah zlam.out 0).trans rfl; have zlca : w6.cell? ⟨zlap, 1, none⟩ = some (.slice A0_1 l0_1.length c0_1) := (zlah zlam.out 1).trans rfl; have zlcb : w6.cell? ⟨zlap, 2, none⟩ = some (.int .i64 a0_2) := (zlah zlam.out 2).trans rfl; have zlcc : w6.cell? ⟨zlap, 3, none⟩ = some (.bool true) := (zlah zlam.out 3).trans rfl; have zlcd : w6.cell? ⟨zlap, 4, none⟩ = some (.slice A0_4 l0_4.length c0_4) := (zlah zlam.out 4).trans rfl; have zlce : w6.cell? ⟨zlap, 5, none⟩ = some (.int .i64 a0_5) := (zlah zlam.out 5).trans rfl; have zlcf := zlai zlam.out 0; have zlcg := zlai zlam.out 1; have zlch := zlai zlam.out 2; have zlci := zlai zlam.out 3; have zlcj := zlai zlam.out 4; have zlck := zlai zlam.out 5; have zlcl : w6.cell? ⟨zlar, 0, none⟩ = some (.slice none 0 0) := (zlah zlat.out 0).trans rfl; have zlcm : w6.cell? ⟨zlar, 1, none⟩ = some (.slice none 0 0) := (zlah zlat.out 1).trans rfl; have zlcn : w6.cell? ⟨zlar, 2, none⟩ = some (.int .i64 0) := (zlah zlat.out 2).trans rfl; have zlco : w6.cell? ⟨zlar, 3, none⟩ = some (.bool false) := (zlah zlat.out 3).trans rfl; have zlcp : w6.cell? ⟨zlar, 4, none⟩ = some (.slice none 0 0) := (zlah zlat.out 4).trans rfl; have zlcq : w6.cell? ⟨zlar, 5, none⟩ = some (.int .i64 0) := (zlah zlat.out 5).trans rfl; have zlcr := zlai zlat.out 0; have zlcs := zlai zlat.out 1; have zlct := zlai zlat.out 2; have zlcu := zlai zlat.out 3; have zlcv := zlai zlat.out 4; have zlcw := zlai zlat.out 5))
  refine bodyPost_ret (results_cell_row rfl _ _ zlar 57 #[.slice A0_0 l0_0.length c0_0, .slice A0_1 l0_1.length c0_1, .int .i64 a0_2, .bool true, .slice A0_4 l0_4.length c0_4, .int .i64 a0_5] (0, 0) _ rfl (by (with_reducible repeat (first | refine zlaa ?_ _ | refine zlac ?_ | refine zlab ?_ _)); refine blk_put (cs := #[.slice A0_0 l0_0.length c0_0, .slice A0_1 l0_1.length c0_1, .int .i64 a0_2, .bool true, .slice A0_4 l0_4.length c0_4, .int .i64 0]) ?_ 5 _ rfl; (with_reducible repeat (first | refine zlaa ?_ _ | refine zlac ?_ | refine zlab ?_ _)); refine blk_put (cs := #[.slice A0_0 l0_0.length c0_0, .slice A0_1 l0_1.length c0_1, .int .i64 a0_2, .bool true, .slice none 0 0, .int .i64 0]) ?_ 4 _ rfl; (with_reducible repeat (first | refine zlaa ?_ _ | refine zlac ?_ | refine zlab ?_ _)); refine blk_put (cs := #[.slice A0_0 l0_0.length c0_0, .slice A0_1 l0_1.length c0_1, .int .i64 a0_2, .bool false, .slice none 0 0, .int .i64 0]) ?_ 3 _ rfl; (with_reducible repeat (first | refine zlaa ?_ _ | refine zlac ?_ | refine zlab ?_ _)); refine blk_put (cs := #[.slice A0_0 l0_0.length c0_0, .slice A0_1 l0_1.length c0_1, .int .i64 0, .bool false, .slice none 0 0, .int .i64 0]) ?_ 2 _ rfl; (with_reducible repeat (first | refine zlaa ?_ _ | refine zlac ?_ | refine zlab ?_ _)); refine blk_put (cs := #[.slice A0_0 l0_0.length c0_0, .slice none 0 0, .int .i64 0, .bool false, .slice none 0 0, .int .i64 0]) ?_ 1 _ rfl; (with_reducible repeat (first | refine zlaa ?_ _ | refine zlac ?_ | refine zlab ?_ _)); refine blk_put (cs := #[.slice none 0 0, .slice none 0 0, .int .i64 0, .bool false, .slice none 0 0, .int .i64 0]) ?_ 0 _ rfl; exact zbk zlat) Try.underlying57 rfl (by kernel_rfl)) rfl ?_
  exact ⟨_, _, _, by first | rfl | (simp [errW_none, errW_some] <;> rfl) | (simp [*, errW_none, errW_some] <;> rfl), by (with_reducible repeat (first | apply Kd.V_alloc | apply Kd.V_drewN | apply Kd.V_drew)); exact Kd.V_mono (Kd.V_far (p := ⟨zlar, 5, none⟩) (Kd.V_far (p := ⟨zlar, 4, none⟩) (Kd.V_far (p := ⟨zlar, 3, none⟩) (Kd.V_far (p := ⟨zlar, 2, none⟩) (Kd.V_far (p := ⟨zlar, 1, none⟩) (Kd.V_far (p := ⟨zlar, 0, none⟩) (Kd.V_mono HO0_0.out (fun k_ hk => (⟨hk, hk.2⟩ : _ ∧ k_ ≠ zlar))) (fun _ hk => hk.2) (.slice A0_0 l0_0.length c0_0)) (fun _ hk => hk.2) (.slice A0_1 l0_1.length c0_1)) (fun _ hk => hk.2) (.int .i64 a0_2)) (fun _ hk => hk.2) (.bool true)) (fun _ hk => hk.2) (.slice A0_4 l0_4.length c0_4)) (fun _ hk => hk.2) (.int .i64 a0_5)) (fun _ hk => hk.1.1.1), by (with_reducible repeat (first | apply Kd.V_alloc | apply Kd.V_drewN | apply Kd.V_drew)); exact Kd.V_mono (Kd.V_far (p := ⟨zlar, 5, none⟩) (Kd.V_far (p := ⟨zlar, 4, none⟩) (Kd.V_far (p := ⟨zlar, 3, none⟩) (Kd.V_far (p := ⟨zlar, 2, none⟩) (Kd.V_far (p := ⟨zlar, 1, none⟩) (Kd.V_far (p := ⟨zlar, 0, none⟩) (Kd.V_mono HO0_1.out (fun k_ hk => (⟨hk, hk.2⟩ : _ ∧ k_ ≠ zlar))) (fun _ hk => hk.2) (.slice A0_0 l0_0.length c0_0)) (fun _ hk => hk.2) (.slice A0_1 l0_1.length c0_1)) (fun _ hk => hk.2) (.int .i64 a0_2)) (fun _ hk => hk.2) (.bool true)) (fun _ hk => hk.2) (.slice A0_4 l0_4.length c0_4)) (fun _ hk => hk.2) (.int .i64 a0_5)) (fun _ hk => hk.1.1.1), by (with_reducible repeat (first | apply Kd.V_alloc | apply Kd.V_drewN | apply Kd.V_drew)); exact Kd.V_mono (Kd.V_far (p := ⟨zlar, 5, none⟩) (Kd.V_far (p := ⟨zlar, 4, none⟩) (Kd.V_far (p := ⟨zlar, 3, none⟩) (Kd.V_far (p := ⟨zlar, 2, none⟩) (Kd.V_far (p := ⟨zlar, 1, none⟩) (Kd.V_far (p := ⟨zlar, 0, none⟩) (Kd.V_mono HO0_4.out (fun k_ hk => (⟨hk, hk.2⟩ : _ ∧ k_ ≠ zlar))) (fun _ hk => hk.2) (.slice A0_0 l0_0.length c0_0)) (fun _ hk => hk.2) (.slice A0_1 l0_1.length c0_1)) (fun _ hk => hk.2) (.int .i64 a0_2)) (fun _ hk => hk.2) (.bool true)) (fun _ hk => hk.2) (.slice A0_4 l0_4.length c0_4)) (fun _ hk => hk.2) (.int .i64 a0_5)) (fun _ hk => hk.1.1.1), by repeat (first | (with_reducible first | exact HB.out | apply zlag | apply zlae | apply zlaf | refine zlad ?_ zlav.out | refine zlad ?_ zlaw.out) | exact HB.out)⟩
 ·replace c4 := Bool.eq_false_iff.mpr c4
  subst c4
  have H1 : (stowageref04_Disk_Fail.l0 k a1 a2 0 l0_0 l0_1 a0_2 false l0_4 a0_5) = some (r1, r2, r3, r4, r5, r6) := by rw [if_neg (show ¬ (false = true) by decide)] at H; exact H
  clear H
  have H := H1
  clear H1
  have H' := zlaj H
  clear H
  go_enter Try.func47, Try.ntmps47
  go_wp2_with (first | ((with_reducible refine gate_dst (N := 3) rfl ?_); refine box_event ?hg (N := 3) ?hd (cs := #[.slice A0_0 l0_0.length c0_0, .slice A0_1 l0_1.length c0_1, .int .i64 a0_2, .bool false, .slice A0_4 l0_4.length c0_4, .int .i64 a0_5]) (t := 57) ?hr ?_; (case hd => rfl); (case hg => rfl); (case hr => first | (go_simp; done) | (go_simp; rfl)); intro zlap hg w10 hbox hb; have n0_ := zlaj (Kd.V_below (Kd.V_elderB (zvk HO0_0) zlap (Nat.le_of_eq hg.symm)) hb); have n1_ := zlaj (Kd.V_below (Kd.V_elderB (zvk HO0_1) zlap (Nat.le_of_eq hg.symm)) hb); have n2_ := zlaj (Kd.V_below (Kd.V_elderB (zvk HO0_4) zlap (Nat.le_of_eq hg.symm)) hb); have n3_ := zlaj (below_step (by repeat (first | (with_reducible first | exact HB.out | apply zlag | apply zlae | apply zlaf) | exact HB.out)) hb); have n4_ := zlaj (hbox); have n5_ := zlaj ((by rw [hg]; exact (below_size (by repeat (first | (with_reducible first | exact HB.out | apply zlag | apply zlae | apply zlaf) | exact HB.out))) : w.heap.size ≤ zlap)); have n6_ := zlaj ((by rw [hg]; exact (below_size (by repeat (first | (with_reducible first | exact HB.out | apply zlag | apply zlae | apply zlaf) | exact HB.out))) : w.heap.size ≤ zlap)); clear HO0_0; clear HO0_1; clear HO0_4; clear HB; have HO0_0 := n0_; have HO0_1 := n1_; have HO0_4 := n2_; have HB := n3_; have zlam := n4_; have zlfh := n5_; have zlav := n6_; clear n0_ n1_ n2_ n3_ n4_ n5_ n6_; clear hb hbox hg) | ((with_reducible refine gate_dst (N := 6) rfl ?_); refine box_event ?hg (N := 6) ?hd (cs := #[.slice none 0 0, .slice none 0 0, .int .i64 0, .bool false, .slice none 0 0, .int .i64 0]) (t := 57) ?hr ?_; (case hd => rfl); (case hg => rfl); (case hr => first | (go_simp; done) | (go_simp; rfl)); intro zlar hg w11 hbox hb; have n0_ := zlaj (Kd.V_below (Kd.V_elderB (zvk HO0_0) zlar (Nat.le_of_eq hg.symm)) hb); have n1_ := zlaj (Kd.V_below (Kd.V_elderB (zvk HO0_1) zlar (Nat.le_of_eq hg.symm)) hb); have n2_ := zlaj (Kd.V_below (Kd.V_elderB (zvk HO0_4) zlar (Nat.le_of_eq hg.symm)) hb); have n3_ := zlaj (blk_below (g := zlap) (o := .cells #[.slice A0_0 l0_0.length c0_0, .slice A0_1 l0_1.length c0_1, .int .i64 a0_2, .bool false, .slice A0_4 l0_4.length c0_4, .int .i64 a0_5] 57 (0, 0)) (zbk zlam) hb); have n4_ := zlaj (below_step (by repeat (first | (with_reducible first | exact HB.out | apply zlag | apply zlae | apply zlaf | refine zlad ?_ zlav.out) | exact HB.out)) hb); have n5_ := zlaj (hbox); have n6_ := zlaj ((by rw [hg]; exact (below_size (by repeat (first | (with_reducible first | exact HB.out | apply zlag | apply zlae | apply zlaf | refine zlad ?_ zlav.out) | exact HB.out))) : w.heap.size ≤ zlar)); have n7_ := zlaj ((by rw [hg]; exact (below_size (by repeat (first | (with_reducible first | exact HB.out | apply zlag | apply zlae | apply zlaf | refine zlad ?_ zlav.out) | exact HB.out))) : w.heap.size ≤ zlar)); have n8_ := zlaj ((by rw [hg]; exact Nat.ne_of_lt (blk_lt (g := zlap) (o := .cells #[.slice A0_0 l0_0.length c0_0, .slice A0_1 l0_1.length c0_1, .int .i64 a0_2, .bool false, .slice A0_4 l0_4.length c0_4, .int .i64 a0_5] 57 (0, 0)) (zbk zlam)) : zlap ≠ zlar)); have n9_ := zlaj ((by rw [hg]; exact Nat.ne_of_gt (blk_lt (g := zlap) (o := .cells #[.slice A0_0 l0_0.length c0_0, .slice A0_1 l0_1.length c0_1, .int .i64 a0_2, .bool false, .slice A0_4 l0_4.length c0_4, .int .i64 a0_5] 57 (0, 0)) (zbk zlam)) : zlar ≠ zlap)); clear HO0_0; clear HO0_1; clear HO0_4; clear zlam; clear HB; have HO0_0 := n0_; have HO0_1 := n1_; have HO0_4 := n2_; have zlam := n3_; have HB := n4_; have zlat := n5_; have zlfi := n6_; have zlaw := n7_; have zlbe := n8_; have zlax := n9_; clear n0_ n1_ n2_ n3_ n4_ n5_ n6_ n7_ n8_ n9_; clear hb hbox hg; have hnb12 := zlbe.out; have hnc12 := zlax.out; have zlbn : w11.cell? ⟨zlap, 0, none⟩ = some (.slice A0_0 l0_0.length c0_0) := (zlah zlam.out 0).trans rfl; have zlbo : w11.cell? ⟨zlap, 1, none⟩ = some (.slice A0_1 l0_1.length c0_1) := (zlah zlam.out 1).trans rfl; have zlbp : w11.cell? ⟨zlap, 2, none⟩ = some (.int .i64 a0_2) := (zlah zlam.out 2).trans rfl; have zlbq : w11.cell? ⟨zlap, 3, none⟩ = some (.bool false) := (zlah zlam.out 3).trans rfl; have zlbr : w11.cell? ⟨zlap, 4, none⟩ = some (.slice A0_4 l0_4.length c0_4) := (zlah zlam.out 4).trans rfl; have zlbs : w11.cell? ⟨zlap, 5, none⟩ = some (.int .i64 a0_5) := (zlah zlam.out 5).trans rfl; have zlbt := zlai zlam.out 0; have zlbu := zlai zlam.out 1; have zlbv := zlai zlam.out 2; have zlbw := zlai zlam.out 3; have zlbx := zlai zlam.out 4; have zlby := zlai zlam.out 5))
  go_loopg [7] k (fun kq v7 w' => ∃ (zlak : Int) (zlau : List (S48)) (u283000 : Value), v7 = .int .i64 zlak ∧ Aside0 (stowageref04_Disk_Fail.l0 kq a1 a2 zlak zlau l0_1 a0_2 false l0_4 a0_5 = some (r1, r2, r3, r4, r5, r6)) ∧ Aside0 (kq ≤ k) ∧ Aside0 (Kd.V k48 48 w' w.heap.size (fun k_ => ((P0_0_ k_ ∨ P0_1_ k_ ∨ P0_4_ k_) ∨ w.heap.size ≤ k_) ∧ k_ ≠ zlap ∧ k_ ≠ zlar) u283000 zlau) ∧ Aside0 (Kd.V k86 86 w' w.heap.size (fun k_ => ((P0_0_ k_ ∨ P0_1_ k_ ∨ P0_4_ k_) ∨ w.heap.size ≤ k_) ∧ k_ ≠ zlap ∧ k_ ≠ zlar) (.slice A0_1 l0_1.length c0_1) l0_1) ∧ Aside0 (Kd.V k90 90 w' w.heap.size (fun k_ => ((P0_0_ k_ ∨ P0_1_ k_ ∨ P0_4_ k_) ∨ w.heap.size ≤ k_) ∧ k_ ≠ zlap ∧ k_ ≠ zlar) (.slice A0_4 l0_4.length c0_4) l0_4) ∧ Aside0 (w'.heap[zlap]? = some (.cells #[u283000, (.slice A0_1 l0_1.length c0_1), .int .i64 a0_2, .bool false, (.slice A0_4 l0_4.length c0_4), .int .i64 a0_5] 57 (0, 0))) ∧ Aside0 (w'.heap[zlar]? = some (.cells #[(.slice none 0 0), (.slice none 0 0), .int .i64 0, .bool false, (.slice none 0 0), .int .i64 0] 57 (0, 0))) ∧ Aside0 (Below w.heap.size w w'))
  case atStart => exact ⟨(0), (l0_0), (.slice A0_0 l0_0.length c0_0), (by first | rfl | (simp; done) | (simp [*]; done)), H', ⟨Nat.le_refl _⟩, ⟨by (with_reducible repeat (first | apply Kd.V_alloc | apply Kd.V_drewN | apply Kd.V_drew)); exact Kd.V_mono HO0_0.out (fun _ hk => ⟨hk.1.1, ⟨hk.1.2, hk.2⟩⟩)⟩, ⟨by (with_reducible repeat (first | apply Kd.V_alloc | apply Kd.V_drewN | apply Kd.V_drew)); exact Kd.V_mono HO0_1.out (fun _ hk => ⟨hk.1.1, ⟨hk.1.2, hk.2⟩⟩)⟩, ⟨by (with_reducible repeat (first | apply Kd.V_alloc | apply Kd.V_drewN | apply Kd.V_drew)); exact Kd.V_mono HO0_4.out (fun _ hk => ⟨hk.1.1, ⟨hk.1.2, hk.2⟩⟩)⟩, ⟨zbk zlam⟩, ⟨zbk zlat⟩, ⟨by repeat (first | (with_reducible first | exact HB.out | apply zlag | apply zlae | apply zlaf | refine zlad ?_ zlav.out | refine zlad ?_ zlaw.out) | exact HB.out)⟩⟩
  case round =>
   clear H'
   try clear c1
   try clear p2
   try clear c4
   try clear p6
   try clear c7
   try clear c12
   try clear zlbn
   try clear zlbo
   try clear zlbp
   try clear zlbq
   try clear zlbr
   try clear zlbs
   try clear zlbz
   try clear zlca
   try clear zlcb
   try clear zlcc
   try clear zlcd
   try clear zlce
   try clear zlcl
   try clear zlcm
   try clear zlcn
   try clear zlco
   try clear zlcp
   try clear zlcq
   try clear zlbt
   try clear zlbu
   try clear zlbv
   try clear zlbw
   try clear zlbx
   try clear zlby
   try clear zlcf
   try clear zlcg
   try clear zlch
   try clear zlci
   try clear zlcj
   try clear zlck
   try clear zlcr
   try clear zlcs
   try clear zlct
   try clear zlcu
   try clear zlcv
   try clear zlcw
   obtain ⟨zlak, zlau, u283000, rfl, HA, HK1, HO_283000, HO_283001, HO_283004, zlam, zlat, HB⟩ := hrel
   cases gk with
   | zero => exact absurd HA.out (by simp [stowageref04_Disk_Fail.l0])
   | succ k1 =>
    have H := HA.out
    clear HA
    simp only [stowageref04_Disk_Fail.l0] at H
    by_cases c14 : zlak < (l0_1.length : Int)
    ·rw [if_pos c14] at H
     have c14b0 : decide (zlak < (l0_1.length : Int)) = true := decide_eq_true c14
     clear c14
     by_cases c15 : 0 ≤ zlak
     ·rw [if_pos c15] at H
      have c15b0 : decide (0 ≤ zlak) = true := decide_eq_true c15
      clear c15
      have HC16 := zlaj H
      clear H
      have hnb17 := zlbe.out
      have hnc17 := zlax.out
      have zlcx : wr.cell? ⟨zlap, 0, none⟩ = some (u283000) := (zlah zlam.out 0).trans rfl
      have zlcy : wr.cell? ⟨zlap, 1, none⟩ = some (.slice A0_1 l0_1.length c0_1) := (zlah zlam.out 1).trans rfl
      have zlcz : wr.cell? ⟨zlap, 2, none⟩ = some (.int .i64 a0_2) := (zlah zlam.out 2).trans rfl
      have zlda : wr.cell? ⟨zlap, 3, none⟩ = some (.bool false) := (zlah zlam.out 3).trans rfl
      have zldb : wr.cell? ⟨zlap, 4, none⟩ = some (.slice A0_4 l0_4.length c0_4) := (zlah zlam.out 4).trans rfl
      have zldc : wr.cell? ⟨zlap, 5, none⟩ = some (.int .i64 a0_5) := (zlah zlam.out 5).trans rfl
      have zldd := zlai zlam.out 0
      have zlde := zlai zlam.out 1
      have zldf := zlai zlam.out 2
      have zldg := zlai zlam.out 3
      have zldh := zlai zlam.out 4
      have zldi := zlai zlam.out 5
      have p284 : 0 ≤ (zlak : Int) := of_decide_eq_true (by first | (with_reducible assumption) | assumption)
      have q284 : zlak < (l0_1.length : Int) := of_decide_eq_true (by first | (with_reducible assumption) | assumption)
      obtain ⟨ad284, e284, hx284_0, hx284_1, hx284_2, hx284_3, hx284_4⟩ := at_T86 (Kd.V_reads' HO_283001.out).2.2 zlak p284 q284
      cases e284
      replace p284 := eq_true p284
      replace q284 := eq_true q284
      go_upto_region 7 with (first | ((with_reducible refine gate_dst (N := 8) rfl ?_); refine box_event ?hg (N := 8) ?hd (cs := #[.int .i64 0, .string (⟨#[]⟩ : ByteArray), .string (⟨#[]⟩ : ByteArray), .string (⟨#[]⟩ : ByteArray), .int .i64 0]) (t := 86) ?hr ?_; (case hd => rfl); (case hg => rfl); (case hr => first | (go_simp; done) | (go_simp; rfl)); intro zlal hg w19 hbox hb; have n0_ := zlaj (Kd.V_below (Kd.V_elderB (zvk HO_283000) zlal (Nat.le_of_eq hg.symm)) hb); have n1_ := zlaj (Kd.V_below (Kd.V_elderB (zvk HO_283001) zlal (Nat.le_of_eq hg.symm)) hb); have n2_ := zlaj (Kd.V_below (Kd.V_elderB (zvk HO_283004) zlal (Nat.le_of_eq hg.symm)) hb); have n3_ := zlaj (blk_below (g := zlap) (o := .cells #[u283000, .slice (some ad284) l0_1.length c0_1, .int .i64 a0_2, .bool false, .slice A0_4 l0_4.length c0_4, .int .i64 a0_5] 57 (0, 0)) (zbk zlam) hb); have n4_ := zlaj (blk_below (g := zlar) (o := .cells #[.slice none 0 0, .slice none 0 0, .int .i64 0, .bool false, .slice none 0 0, .int .i64 0] 57 (0, 0)) (zbk zlat) hb); have n5_ := zlaj (below_step (by repeat (first | (with_reducible first | exact HB.out | apply zlag | apply zlae | apply zlaf | refine zlad ?_ zlav.out | refine zlad ?_ zlaw.out) | exact HB.out)) hb); have n6_ := zlaj (hbox); have n7_ := zlaj ((by rw [hg]; exact (below_size (by repeat (first | (with_reducible first | exact HB.out | apply zlag | apply zlae | apply zlaf | refine zlad ?_ zlav.out | refine zlad ?_ zlaw.out) | exact HB.out))) : w.heap.size ≤ zlal)); have n8_ := zlaj ((by rw [hg]; exact (below_size (by repeat (first | (with_reducible first | exact HB.out | apply zlag | apply zlae | apply zlaf | refine zlad ?_ zlav.out | refine zlad ?_ zlaw.out) | exact HB.out))) : w.heap.size ≤ zlal)); have n9_ := zlaj ((by rw [hg]; exact Nat.ne_of_lt (blk_lt (g := zlap) (o := .cells #[u283000, .slice (some ad284) l0_1.length c0_1, .int .i64 a0_2, .bool false, .slice A0_4 l0_4.length c0_4, .int .i64 a0_5] 57 (0, 0)) (zbk zlam)) : zlap ≠ zlal)); have n10_ := zlaj ((by rw [hg]; exact Nat.ne_of_gt (blk_lt (g := zlap) (o := .cells #[u283000, .slice (some ad284) l0_1.length c0_1, .int .i64 a0_2, .bool false, .slice A0_4 l0_4.length c0_4, .int .i64 a0_5] 57 (0, 0)) (zbk zlam)) : zlal ≠ zlap)); have n11_ := zlaj ((by rw [hg]; exact Nat.ne_of_lt (blk_lt (g := zlar) (o := .cells #[.slice none 0 0, .slice none 0 0, .int .i64 0, .bool false, .slice none 0 0, .int .i64 0] 57 (0, 0)) (zbk zlat)) : zlar ≠ zlal)); have n12_ := zlaj ((by rw [hg]; exact Nat.ne_of_gt (blk_lt (g := zlar) (o := .cells #[.slice none 0 0, .slice none 0 0, .int .i64 0, .bool false, .slice none 0 0, .int .i64 0] 57 (0, 0)) (zbk zlat)) : zlal ≠ zlar)); clear HO_283000; clear HO_283001; clear HO_283004; clear zlam; clear zlat; clear HB; have HO_283000 := n0_; have HO_283001 := n1_; have HO_283004 := n2_; have zlam := n3_; have zlat := n4_; have HB := n5_; have zlas := n6_; have zljv := n7_; have zlbd := n8_; have zlan := n9_; have zlbf := n10_; have zlao := n11_; have zlbg := n12_; clear n0_ n1_ n2_ n3_ n4_ n5_ n6_ n7_ n8_ n9_ n10_ n11_ n12_; clear hb hbox hg; have hnb20 := zlbf.out; have hnc20 := zlan.out; have hnb21 := zlbg.out; have hnc21 := zlao.out; have zldj : w19.cell? ⟨zlal, 0, none⟩ = some (.int .i64 0) := (zlah zlas.out 0).trans rfl; have zldk : w19.cell? ⟨zlal, 1, none⟩ = some (.string (⟨#[]⟩ : ByteArray)) := (zlah zlas.out 1).trans rfl; have zldl : w19.cell? ⟨zlal, 2, none⟩ = some (.string (⟨#[]⟩ : ByteArray)) := (zlah zlas.out 2).trans rfl; have zldm : w19.cell? ⟨zlal, 3, none⟩ = some (.string (⟨#[]⟩ : ByteArray)) := (zlah zlas.out 3).trans rfl; have zldn : w19.cell? ⟨zlal, 4, none⟩ = some (.int .i64 0) := (zlah zlas.out 4).trans rfl; have zldo := zlai zlas.out 0; have zldp := zlai zlas.out 1; have zldq := zlai zlas.out 2; have zldr := zlai zlas.out 3; have zlds := zlai zlas.out 4))
      (try simp only [Act.put, List.setIfInBounds_toArray, List.set_cons_zero, List.set_cons_succ])
      go_cut [52] (fun v52 wc => ∃ (kq : Nat) (zlbi : Bool), v52 = .bool zlbi ∧ Aside0 (stowageref04_Disk_Fail.j1 kq a1 a2 zlak zlbi zlau l0_1 a0_2 false l0_4 a0_5 ((rd_T86 l0_1 zlak).f0) ((rd_T86 l0_1 zlak).f1) ((rd_T86 l0_1 zlak).f2) ((rd_T86 l0_1 zlak).f3) ((rd_T86 l0_1 zlak).f4) = some (r1, r2, r3, r4, r5, r6)) ∧ Aside0 (kq ≤ k1) ∧ Aside0 (Kd.V k48 48 wc w.heap.size (fun k_ => ((P0_0_ k_ ∨ P0_1_ k_ ∨ P0_4_ k_) ∨ w.heap.size ≤ k_) ∧ k_ ≠ zlap ∧ k_ ≠ zlar ∧ k_ ≠ zlal) u283000 zlau) ∧ Aside0 (Kd.V k86 86 wc w.heap.size (fun k_ => ((P0_0_ k_ ∨ P0_1_ k_ ∨ P0_4_ k_) ∨ w.heap.size ≤ k_) ∧ k_ ≠ zlap ∧ k_ ≠ zlar ∧ k_ ≠ zlal) (.slice (some ad284) l0_1.length c0_1) l0_1) ∧ Aside0 (Kd.V k90 90 wc w.heap.size (fun k_ => ((P0_0_ k_ ∨ P0_1_ k_ ∨ P0_4_ k_) ∨ w.heap.size ≤ k_) ∧ k_ ≠ zlap ∧ k_ ≠ zlar ∧ k_ ≠ zlal) (.slice A0_4 l0_4.length c0_4) l0_4) ∧ Aside0 (wc.heap[zlap]? = some (.cells #[u283000, (.slice (some ad284) l0_1.length c0_1), .int .i64 a0_2, .bool false, (.slice A0_4 l0_4.length c0_4), .int .i64 a0_5] 57 (0, 0))) ∧ Aside0 (wc.heap[zlar]? = some (.cells #[(.slice none 0 0), (.slice none 0 0), .int .i64 0, .bool false, (.slice none 0 0), .int .i64 0] 57 (0, 0))) ∧ Aside0 (wc.heap[zlal]? = some (.cells #[.int .i64 ((rd_T86 l0_1 zlak).f0), .string ((rd_T86 l0_1 zlak).f1), .string ((rd_T86 l0_1 zlak).f2), .string ((rd_T86 l0_1 zlak).f3), .int .i64 ((rd_T86 l0_1 zlak).f4)] 86 (0, 0))) ∧ Aside0 (Below w.heap.size w wc))
      case first =>
       have H := HC16.out
       clear HC16
       by_cases c23 : zlak ≥ a1
       ·rw [if_pos c23] at H
        have c23b0 : decide (a1 ≤ zlak) = true := decide_eq_true c23
        clear c23
        (first | rw [c23b0] | (simp only [i64_w, i32_w]; rw [c23b0]) | skip)
        by_cases c24 : zlak > a1
        ·rw [if_pos c24] at H
         have c24b0 : decide (a1 < zlak) = true := decide_eq_true c24
         clear c24
         by_cases c25 : a1 ≥ 0
         ·rw [if_pos c25] at H
          have c25b0 : decide (0 ≤ a1) = true := decide_eq_true c25
          clear c25
          have H' := zlaj H
          clear H
          go_wp2
          go_meet
          case rel => exact ⟨_, (true), (by first | rfl | (simp; done) | (simp [*]; done)), H', ⟨by have := HK1.out; first | omega | exact Nat.le_refl _⟩, ⟨by (with_reducible repeat (first | apply Kd.V_alloc | apply Kd.V_drewN | apply Kd.V_drew)); exact Kd.V_mono (Kd.V_far (p := ⟨zlal, 4, none⟩) (Kd.V_far (p := ⟨zlal, 3, none⟩) (Kd.V_far (p := ⟨zlal, 2, none⟩) (Kd.V_far (p := ⟨zlal, 1, none⟩) (Kd.V_far (p := ⟨zlal, 0, none⟩) (Kd.V_mono HO_283000.out (fun k_ hk => (⟨hk, hk.2⟩ : _ ∧ k_ ≠ zlal))) (fun _ hk => hk.2) (.int .i64 ((rd_T86 l0_1 zlak).f0))) (fun _ hk => hk.2) (.string ((rd_T86 l0_1 zlak).f1))) (fun _ hk => hk.2) (.string ((rd_T86 l0_1 zlak).f2))) (fun _ hk => hk.2) (.string ((rd_T86 l0_1 zlak).f3))) (fun _ hk => hk.2) (.int .i64 ((rd_T86 l0_1 zlak).f4))) (fun _ hk => ⟨hk.1.1.1, ⟨hk.1.1.2.1, ⟨hk.1.1.2.2, hk.1.2⟩⟩⟩)⟩, ⟨by (with_reducible repeat (first | apply Kd.V_alloc | apply Kd.V_drewN | apply Kd.V_drew)); exact Kd.V_mono (Kd.V_far (p := ⟨zlal, 4, none⟩) (Kd.V_far (p := ⟨zlal, 3, none⟩) (Kd.V_far (p := ⟨zlal, 2, none⟩) (Kd.V_far (p := ⟨zlal, 1, none⟩) (Kd.V_far (p := ⟨zlal, 0, none⟩) (Kd.V_mono HO_283001.out (fun k_ hk => (⟨hk, hk.2⟩ : _ ∧ k_ ≠ zlal))) (fun _ hk => hk.2) (.int .i64 ((rd_T86 l0_1 zlak).f0))) (fun _ hk => hk.2) (.string ((rd_T86 l0_1 zlak).f1))) (fun _ hk => hk.2) (.string ((rd_T86 l0_1 zlak).f2))) (fun _ hk => hk.2) (.string ((rd_T86 l0_1 zlak).f3))) (fun _ hk => hk.2) (.int .i64 ((rd_T86 l0_1 zlak).f4))) (fun _ hk => ⟨hk.1.1.1, ⟨hk.1.1.2.1, ⟨hk.1.1.2.2, hk.1.2⟩⟩⟩)⟩, ⟨by (with_reducible repeat (first | apply Kd.V_alloc | apply Kd.V_drewN | apply Kd.V_drew)); exact Kd.V_mono (Kd.V_far (p := ⟨zlal, 4, none⟩) (Kd.V_far (p := ⟨zlal, 3, none⟩) (Kd.V_far (p := ⟨zlal, 2, none⟩) (Kd.V_far (p := ⟨zlal, 1, none⟩) (Kd.V_far (p := ⟨zlal, 0, none⟩) (Kd.V_mono HO_283004.out (fun k_ hk => (⟨hk, hk.2⟩ : _ ∧ k_ ≠ zlal))) (fun _ hk => hk.2) (.int .i64 ((rd_T86 l0_1 zlak).f0))) (fun _ hk => hk.2) (.string ((rd_T86 l0_1 zlak).f1))) (fun _ hk => hk.2) (.string ((rd_T86 l0_1 zlak).f2))) (fun _ hk => hk.2) (.string ((rd_T86 l0_1 zlak).f3))) (fun _ hk => hk.2) (.int .i64 ((rd_T86 l0_1 zlak).f4))) (fun _ hk => ⟨hk.1.1.1, ⟨hk.1.1.2.1, ⟨hk.1.1.2.2, hk.1.2⟩⟩⟩)⟩, ⟨by (iterate 5 ((with_reducible repeat (first | refine zlaa ?_ _ | refine zlac ?_ | refine zlab ?_ _)); refine blk_far ?_ zlan.out _)); exact zbk zlam⟩, ⟨by (iterate 5 ((with_reducible repeat (first | refine zlaa ?_ _ | refine zlac ?_ | refine zlab ?_ _)); refine blk_far ?_ zlao.out _)); exact zbk zlat⟩, ⟨by (with_reducible repeat (first | refine zlaa ?_ _ | refine zlac ?_ | refine zlab ?_ _)); refine blk_put (cs := #[.int .i64 ((rd_T86 l0_1 zlak).f0), .string ((rd_T86 l0_1 zlak).f1), .string ((rd_T86 l0_1 zlak).f2), .string ((rd_T86 l0_1 zlak).f3), .int .i64 0]) ?_ 4 _ rfl; (with_reducible repeat (first | refine zlaa ?_ _ | refine zlac ?_ | refine zlab ?_ _)); refine blk_put (cs := #[.int .i64 ((rd_T86 l0_1 zlak).f0), .string ((rd_T86 l0_1 zlak).f1), .string ((rd_T86 l0_1 zlak).f2), .string (⟨#[]⟩ : ByteArray), .int .i64 0]) ?_ 3 _ rfl; (with_reducible repeat (first | refine zlaa ?_ _ | refine zlac ?_ | refine zlab ?_ _)); refine blk_put (cs := #[.int .i64 ((rd_T86 l0_1 zlak).f0), .string ((rd_T86 l0_1 zlak).f1), .string (⟨#[]⟩ : ByteArray), .string (⟨#[]⟩ : ByteArray), .int .i64 0]) ?_ 2 _ rfl; (with_reducible repeat (first | refine zlaa ?_ _ | refine zlac ?_ | refine zlab ?_ _)); refine blk_put (cs := #[.int .i64 ((rd_T86 l0_1 zlak).f0), .string (⟨#[]⟩ : ByteArray), .string (⟨#[]⟩ : ByteArray), .string (⟨#[]⟩ : ByteArray), .int .i64 0]) ?_ 1 _ rfl; (with_reducible repeat (first | refine zlaa ?_ _ | refine zlac ?_ | refine zlab ?_ _)); refine blk_put (cs := #[.int .i64 0, .string (⟨#[]⟩ : ByteArray), .string (⟨#[]⟩ : ByteArray), .string (⟨#[]⟩ : ByteArray), .int .i64 0]) ?_ 0 _ rfl; exact zbk zlas⟩, ⟨by repeat (first | (with_reducible first | exact HB.out | apply zlag | apply zlae | apply zlaf | refine zlad ?_ zlav.out | refine zlad ?_ zlaw.out | refine zlad ?_ zlbd.out) | exact HB.out)⟩⟩
         ·rw [if_neg c25] at H
          have c25b0 : decide (0 ≤ a1) = false := decide_eq_false c25
          clear c25
          by_cases c26 : zlak > 0
          ·rw [if_pos c26] at H
           have c26b0 : decide (0 < zlak) = true := decide_eq_true c26
           clear c26
           by_cases c27 : a1 < 0
           ·rw [if_pos c27] at H
            have c27b0 : decide (a1 < 0) = true := decide_eq_true c27
            clear c27
            have H' := zlaj H
            clear H
            go_wp2
            go_meet
            case rel => exact ⟨_, (true), (by first | rfl | (simp; done) | (simp [*]; done)), H', ⟨by have := HK1.out; first | omega | exact Nat.le_refl _⟩, ⟨by (with_reducible repeat (first | apply Kd.V_alloc | apply Kd.V_drewN | apply Kd.V_drew)); exact Kd.V_mono (Kd.V_far (p := ⟨zlal, 4, none⟩) (Kd.V_far (p := ⟨zlal, 3, none⟩) (Kd.V_far (p := ⟨zlal, 2, none⟩) (Kd.V_far (p := ⟨zlal, 1, none⟩) (Kd.V_far (p := ⟨zlal, 0, none⟩) (Kd.V_mono HO_283000.out (fun k_ hk => (⟨hk, hk.2⟩ : _ ∧ k_ ≠ zlal))) (fun _ hk => hk.2) (.int .i64 ((rd_T86 l0_1 zlak).f0))) (fun _ hk => hk.2) (.string ((rd_T86 l0_1 zlak).f1))) (fun _ hk => hk.2) (.string ((rd_T86 l0_1 zlak).f2))) (fun _ hk => hk.2) (.string ((rd_T86 l0_1 zlak).f3))) (fun _ hk => hk.2) (.int .i64 ((rd_T86 l0_1 zlak).f4))) (fun _ hk => ⟨hk.1.1.1, ⟨hk.1.1.2.1, ⟨hk.1.1.2.2, hk.1.2⟩⟩⟩)⟩, ⟨by (with_reducible repeat (first | apply Kd.V_alloc | apply Kd.V_drewN | apply Kd.V_drew)); exact Kd.V_mono (Kd.V_far (p := ⟨zlal, 4, none⟩) (Kd.V_far (p := ⟨zlal, 3, none⟩) (Kd.V_far (p := ⟨zlal, 2, none⟩) (Kd.V_far (p := ⟨zlal, 1, none⟩) (Kd.V_far (p := ⟨zlal, 0, none⟩) (Kd.V_mono HO_283001.out (fun k_ hk => (⟨hk, hk.2⟩ : _ ∧ k_ ≠ zlal))) (fun _ hk => hk.2) (.int .i64 ((rd_T86 l0_1 zlak).f0))) (fun _ hk => hk.2) (.string ((rd_T86 l0_1 zlak).f1))) (fun _ hk => hk.2) (.string ((rd_T86 l0_1 zlak).f2))) (fun _ hk => hk.2) (.string ((rd_T86 l0_1 zlak).f3))) (fun _ hk => hk.2) (.int .i64 ((rd_T86 l0_1 zlak).f4))) (fun _ hk => ⟨hk.1.1.1, ⟨hk.1.1.2.1, ⟨hk.1.1.2.2, hk.1.2⟩⟩⟩)⟩, ⟨by (with_reducible repeat (first | apply Kd.V_alloc | apply Kd.V_drewN | apply Kd.V_drew)); exact Kd.V_mono (Kd.V_far (p := ⟨zlal, 4, none⟩) (Kd.V_far (p := ⟨zlal, 3, none⟩) (Kd.V_far (p := ⟨zlal, 2, none⟩) (Kd.V_far (p := ⟨zlal, 1, none⟩) (Kd.V_far (p := ⟨zlal, 0, none⟩) (Kd.V_mono HO_283004.out (fun k_ hk => (⟨hk, hk.2⟩ : _ ∧ k_ ≠ zlal))) (fun _ hk => hk.2) (.int .i64 ((rd_T86 l0_1 zlak).f0))) (fun _ hk => hk.2) (.string ((rd_T86 l0_1 zlak).f1))) (fun _ hk => hk.2) (.string ((rd_T86 l0_1 zlak).f2))) (fun _ hk => hk.2) (.string ((rd_T86 l0_1 zlak).f3))) (fun _ hk => hk.2) (.int .i64 ((rd_T86 l0_1 zlak).f4))) (fun _ hk => ⟨hk.1.1.1, ⟨hk.1.1.2.1, ⟨hk.1.1.2.2, hk.1.2⟩⟩⟩)⟩, ⟨by (iterate 5 ((with_reducible repeat (first | refine zlaa ?_ _ | refine zlac ?_ | refine zlab ?_ _)); refine blk_far ?_ zlan.out _)); exact zbk zlam⟩, ⟨by (iterate 5 ((with_reducible repeat (first | refine zlaa ?_ _ | refine zlac ?_ | refine zlab ?_ _)); refine blk_far ?_ zlao.out _)); exact zbk zlat⟩, ⟨by (with_reducible repeat (first | refine zlaa ?_ _ | refine zlac ?_ | refine zlab ?_ _)); refine blk_put (cs := #[.int .i64 ((rd_T86 l0_1 zlak).f0), .string ((rd_T86 l0_1 zlak).f1), .string ((rd_T86 l0_1 zlak).f2), .string ((rd_T86 l0_1 zlak).f3), .int .i64 0]) ?_ 4 _ rfl; (with_reducible repeat (first | refine zlaa ?_ _ | refine zlac ?_ | refine zlab ?_ _)); refine blk_put (cs := #[.int .i64 ((rd_T86 l0_1 zlak).f0), .string ((rd_T86 l0_1 zlak).f1), .string ((rd_T86 l0_1 zlak).f2), .string (⟨#[]⟩ : ByteArray), .int .i64 0]) ?_ 3 _ rfl; (with_reducible repeat (first | refine zlaa ?_ _ | refine zlac ?_ | refine zlab ?_ _)); refine blk_put (cs := #[.int .i64 ((rd_T86 l0_1 zlak).f0), .string ((rd_T86 l0_1 zlak).f1), .string (⟨#[]⟩ : ByteArray), .string (⟨#[]⟩ : ByteArray), .int .i64 0]) ?_ 2 _ rfl; (with_reducible repeat (first | refine zlaa ?_ _ | refine zlac ?_ | refine zlab ?_ _)); refine blk_put (cs := #[.int .i64 ((rd_T86 l0_1 zlak).f0), .string (⟨#[]⟩ : ByteArray), .string (⟨#[]⟩ : ByteArray), .string (⟨#[]⟩ : ByteArray), .int .i64 0]) ?_ 1 _ rfl; (with_reducible repeat (first | refine zlaa ?_ _ | refine zlac ?_ | refine zlab ?_ _)); refine blk_put (cs := #[.int .i64 0, .string (⟨#[]⟩ : ByteArray), .string (⟨#[]⟩ : ByteArray), .string (⟨#[]⟩ : ByteArray), .int .i64 0]) ?_ 0 _ rfl; exact zbk zlas⟩, ⟨by repeat (first | (with_reducible first | exact HB.out | apply zlag | apply zlae | apply zlaf | refine zlad ?_ zlav.out | refine zlad ?_ zlaw.out | refine zlad ?_ zlbd.out) | exact HB.out)⟩⟩
           ·rw [if_neg c27] at H
            have c27b0 : decide (a1 < 0) = false := decide_eq_false c27
            clear c27
            by_cases c28 : a2 ≤ 0
            ·rw [if_pos c28] at H
             have c28b0 : decide (a2 ≤ 0) = true := decide_eq_true c28
             clear c28
             have H' := zlaj H
             clear H
             go_wp2
             go_meet
             case rel => exact ⟨_, (true), (by first | rfl | (simp; done) | (simp [*]; done)), H', ⟨by have := HK1.out; first | omega | exact Nat.le_refl _⟩, ⟨by (with_reducible repeat (first | apply Kd.V_alloc | apply Kd.V_drewN | apply Kd.V_drew)); exact Kd.V_mono (Kd.V_far (p := ⟨zlal, 4, none⟩) (Kd.V_far (p := ⟨zlal, 3, none⟩) (Kd.V_far (p := ⟨zlal, 2, none⟩) (Kd.V_far (p := ⟨zlal, 1, none⟩) (Kd.V_far (p := ⟨zlal, 0, none⟩) (Kd.V_mono HO_283000.out (fun k_ hk => (⟨hk, hk.2⟩ : _ ∧ k_ ≠ zlal))) (fun _ hk => hk.2) (.int .i64 ((rd_T86 l0_1 zlak).f0))) (fun _ hk => hk.2) (.string ((rd_T86 l0_1 zlak).f1))) (fun _ hk => hk.2) (.string ((rd_T86 l0_1 zlak).f2))) (fun _ hk => hk.2) (.string ((rd_T86 l0_1 zlak).f3))) (fun _ hk => hk.2) (.int .i64 ((rd_T86 l0_1 zlak).f4))) (fun _ hk => ⟨hk.1.1.1, ⟨hk.1.1.2.1, ⟨hk.1.1.2.2, hk.1.2⟩⟩⟩)⟩, ⟨by (with_reducible repeat (first | apply Kd.V_alloc | apply Kd.V_drewN | apply Kd.V_drew)); exact Kd.V_mono (Kd.V_far (p := ⟨zlal, 4, none⟩) (Kd.V_far (p := ⟨zlal, 3, none⟩) (Kd.V_far (p := ⟨zlal, 2, none⟩) (Kd.V_far (p := ⟨zlal, 1, none⟩) (Kd.V_far (p := ⟨zlal, 0, none⟩) (Kd.V_mono HO_283001.out (fun k_ hk => (⟨hk, hk.2⟩ : _ ∧ k_ ≠ zlal))) (fun _ hk => hk.2) (.int .i64 ((rd_T86 l0_1 zlak).f0))) (fun _ hk => hk.2) (.string ((rd_T86 l0_1 zlak).f1))) (fun _ hk => hk.2) (.string ((rd_T86 l0_1 zlak).f2))) (fun _ hk => hk.2) (.string ((rd_T86 l0_1 zlak).f3))) (fun _ hk => hk.2) (.int .i64 ((rd_T86 l0_1 zlak).f4))) (fun _ hk => ⟨hk.1.1.1, ⟨hk.1.1.2.1, ⟨hk.1.1.2.2, hk.1.2⟩⟩⟩)⟩, ⟨by (with_reducible repeat (first | apply Kd.V_alloc | apply Kd.V_drewN | apply Kd.V_drew)); exact Kd.V_mono (Kd.V_far (p := ⟨zlal, 4, none⟩) (Kd.V_far (p := ⟨zlal, 3, none⟩) (Kd.V_far (p := ⟨zlal, 2, none⟩) (Kd.V_far (p := ⟨zlal, 1, none⟩) (Kd.V_far (p := ⟨zlal, 0, none⟩) (Kd.V_mono HO_283004.out (fun k_ hk => (⟨hk, hk.2⟩ : _ ∧ k_ ≠ zlal))) (fun _ hk => hk.2) (.int .i64 ((rd_T86 l0_1 zlak).f0))) (fun _ hk => hk.2) (.string ((rd_T86 l0_1 zlak).f1))) (fun _ hk => hk.2) (.string ((rd_T86 l0_1 zlak).f2))) (fun _ hk => hk.2) (.string ((rd_T86 l0_1 zlak).f3))) (fun _ hk => hk.2) (.int .i64 ((rd_T86 l0_1 zlak).f4))) (fun _ hk => ⟨hk.1.1.1, ⟨hk.1.1.2.1, ⟨hk.1.1.2.2, hk.1.2⟩⟩⟩)⟩, ⟨by (iterate 5 ((with_reducible repeat (first | refine zlaa ?_ _ | refine zlac ?_ | refine zlab ?_ _)); refine blk_far ?_ zlan.out _)); exact zbk zlam⟩, ⟨by (iterate 5 ((with_reducible repeat (first | refine zlaa ?_ _ | refine zlac ?_ | refine zlab ?_ _)); refine blk_far ?_ zlao.out _)); exact zbk zlat⟩, ⟨by (with_reducible repeat (first | refine zlaa ?_ _ | refine zlac ?_ | refine zlab ?_ _)); refine blk_put (cs := #[.int .i64 ((rd_T86 l0_1 zlak).f0), .string ((rd_T86 l0_1 zlak).f1), .string ((rd_T86 l0_1 zlak).f2), .string ((rd_T86 l0_1 zlak).f3), .int .i64 0]) ?_ 4 _ rfl; (with_reducible repeat (first | refine zlaa ?_ _ | refine zlac ?_ | refine zlab ?_ _)); refine blk_put (cs := #[.int .i64 ((rd_T86 l0_1 zlak).f0), .string ((rd_T86 l0_1 zlak).f1), .string ((rd_T86 l0_1 zlak).f2), .string (⟨#[]⟩ : ByteArray), .int .i64 0]) ?_ 3 _ rfl; (with_reducible repeat (first | refine zlaa ?_ _ | refine zlac ?_ | refine zlab ?_ _)); refine blk_put (cs := #[.int .i64 ((rd_T86 l0_1 zlak).f0), .string ((rd_T86 l0_1 zlak).f1), .string (⟨#[]⟩ : ByteArray), .string (⟨#[]⟩ : ByteArray), .int .i64 0]) ?_ 2 _ rfl; (with_reducible repeat (first | refine zlaa ?_ _ | refine zlac ?_ | refine zlab ?_ _)); refine blk_put (cs := #[.int .i64 ((rd_T86 l0_1 zlak).f0), .string (⟨#[]⟩ : ByteArray), .string (⟨#[]⟩ : ByteArray), .string (⟨#[]⟩ : ByteArray), .int .i64 0]) ?_ 1 _ rfl; (with_reducible repeat (first | refine zlaa ?_ _ | refine zlac ?_ | refine zlab ?_ _)); refine blk_put (cs := #[.int .i64 0, .string (⟨#[]⟩ : ByteArray), .string (⟨#[]⟩ : ByteArray), .string (⟨#[]⟩ : ByteArray), .int .i64 0]) ?_ 0 _ rfl; exact zbk zlas⟩, ⟨by repeat (first | (with_reducible first | exact HB.out | apply zlag | apply zlae | apply zlaf | refine zlad ?_ zlav.out | refine zlad ?_ zlaw.out | refine zlad ?_ zlbd.out) | exact HB.out)⟩⟩
            ·rw [if_neg c28] at H
             have c28b0 : decide (a2 ≤ 0) = false := decide_eq_false c28
             clear c28
             have H' := zlaj H
             clear H
             have hnb29 := zlbf.out
             have hnc29 := zlan.out
             have hnb30 := zlbg.out
             have hnc30 := zlao.out
             have zldt : w19.cell? ⟨zlal, 0, none⟩ = some (.int .i64 0) := (zlah zlas.out 0).trans rfl
             have zldu : w19.cell? ⟨zlal, 1, none⟩ = some (.string (⟨#[]⟩ : ByteArray)) := (zlah zlas.out 1).trans rfl
             have zldv : w19.cell? ⟨zlal, 2, none⟩ = some (.string (⟨#[]⟩ : ByteArray)) := (zlah zlas.out 2).trans rfl
             have zldw : w19.cell? ⟨zlal, 3, none⟩ = some (.string (⟨#[]⟩ : ByteArray)) := (zlah zlas.out 3).trans rfl
             have zldx : w19.cell? ⟨zlal, 4, none⟩ = some (.int .i64 0) := (zlah zlas.out 4).trans rfl
             have zldy := zlai zlas.out 0
             have zldz := zlai zlas.out 1
             have zlea := zlai zlas.out 2
             have zleb := zlai zlas.out 3
             have zlec := zlai zlas.out 4
             go_wp2
             go_meet
             case rel => exact ⟨_, (decide (((rd_T86 l0_1 zlak).f0) > 1)), (by first | rfl | (simp; done) | (simp [*]; done)), H', ⟨by have := HK1.out; first | omega | exact Nat.le_refl _⟩, ⟨by (with_reducible repeat (first | apply Kd.V_alloc | apply Kd.V_drewN | apply Kd.V_drew)); exact Kd.V_mono (Kd.V_far (p := ⟨zlal, 4, none⟩) (Kd.V_far (p := ⟨zlal, 3, none⟩) (Kd.V_far (p := ⟨zlal, 2, none⟩) (Kd.V_far (p := ⟨zlal, 1, none⟩) (Kd.V_far (p := ⟨zlal, 0, none⟩) (Kd.V_mono HO_283000.out (fun k_ hk => (⟨hk, hk.2⟩ : _ ∧ k_ ≠ zlal))) (fun _ hk => hk.2) (.int .i64 ((rd_T86 l0_1 zlak).f0))) (fun _ hk => hk.2) (.string ((rd_T86 l0_1 zlak).f1))) (fun _ hk => hk.2) (.string ((rd_T86 l0_1 zlak).f2))) (fun _ hk => hk.2) (.string ((rd_T86 l0_1 zlak).f3))) (fun _ hk => hk.2) (.int .i64 ((rd_T86 l0_1 zlak).f4))) (fun _ hk => ⟨hk.1.1.1, ⟨hk.1.1.2.1, ⟨hk.1.1.2.2, hk.1.2⟩⟩⟩)⟩, ⟨by (with_reducible repeat (first | apply Kd.V_alloc | apply Kd.V_drewN | apply Kd.V_drew)); exact Kd.V_mono (Kd.V_far (p := ⟨zlal, 4, none⟩) (Kd.V_far (p := ⟨zlal, 3, none⟩) (Kd.V_far (p := ⟨zlal, 2, none⟩) (Kd.V_far (p := ⟨zlal, 1, none⟩) (Kd.V_far (p := ⟨zlal, 0, none⟩) (Kd.V_mono HO_283001.out (fun k_ hk => (⟨hk, hk.2⟩ : _ ∧ k_ ≠ zlal))) (fun _ hk => hk.2) (.int .i64 ((rd_T86 l0_1 zlak).f0))) (fun _ hk => hk.2) (.string ((rd_T86 l0_1 zlak).f1))) (fun _ hk => hk.2) (.string ((rd_T86 l0_1 zlak).f2))) (fun _ hk => hk.2) (.string ((rd_T86 l0_1 zlak).f3))) (fun _ hk => hk.2) (.int .i64 ((rd_T86 l0_1 zlak).f4))) (fun _ hk => ⟨hk.1.1.1, ⟨hk.1.1.2.1, ⟨hk.1.1.2.2, hk.1.2⟩⟩⟩)⟩, ⟨by (with_reducible repeat (first | apply Kd.V_alloc | apply Kd.V_drewN | apply Kd.V_drew)); exact Kd.V_mono (Kd.V_far (p := ⟨zlal, 4, none⟩) (Kd.V_far (p := ⟨zlal, 3, none⟩) (Kd.V_far (p := ⟨zlal, 2, none⟩) (Kd.V_far (p := ⟨zlal, 1, none⟩) (Kd.V_far (p := ⟨zlal, 0, none⟩) (Kd.V_mono HO_283004.out (fun k_ hk => (⟨hk, hk.2⟩ : _ ∧ k_ ≠ zlal))) (fun _ hk => hk.2) (.int .i64 ((rd_T86 l0_1 zlak).f0))) (fun _ hk => hk.2) (.string ((rd_T86 l0_1 zlak).f1))) (fun _ hk => hk.2) (.string ((rd_T86 l0_1 zlak).f2))) (fun _ hk => hk.2) (.string ((rd_T86 l0_1 zlak).f3))) (fun _ hk => hk.2) (.int .i64 ((rd_T86 l0_1 zlak).f4))) (fun _ hk => ⟨hk.1.1.1, ⟨hk.1.1.2.1, ⟨hk.1.1.2.2, hk.1.2⟩⟩⟩)⟩, ⟨by (iterate 5 ((with_reducible repeat (first | refine zlaa ?_ _ | refine zlac ?_ | refine zlab ?_ _)); refine blk_far ?_ zlan.out _)); exact zbk zlam⟩, ⟨by (iterate 5 ((with_reducible repeat (first | refine zlaa ?_ _ | refine zlac ?_ | refine zlab ?_ _)); refine blk_far ?_ zlao.out _)); exact zbk zlat⟩, ⟨by (with_reducible repeat (first | refine zlaa ?_ _ | refine zlac ?_ | refine zlab ?_ _)); refine blk_put (cs := #[.int .i64 ((rd_T86 l0_1 zlak).f0), .string ((rd_T86 l0_1 zlak).f1), .string ((rd_T86 l0_1 zlak).f2), .string ((rd_T86 l0_1 zlak).f3), .int .i64 0]) ?_ 4 _ rfl; (with_reducible repeat (first | refine zlaa ?_ _ | refine zlac ?_ | refine zlab ?_ _)); refine blk_put (cs := #[.int .i64 ((rd_T86 l0_1 zlak).f0), .string ((rd_T86 l0_1 zlak).f1), .string ((rd_T86 l0_1 zlak).f2), .string (⟨#[]⟩ : ByteArray), .int .i64 0]) ?_ 3 _ rfl; (with_reducible repeat (first | refine zlaa ?_ _ | refine zlac ?_ | refine zlab ?_ _)); refine blk_put (cs := #[.int .i64 ((rd_T86 l0_1 zlak).f0), .string ((rd_T86 l0_1 zlak).f1), .string (⟨#[]⟩ : ByteArray), .string (⟨#[]⟩ : ByteArray), .int .i64 0]) ?_ 2 _ rfl; (with_reducible repeat (first | refine zlaa ?_ _ | refine zlac ?_ | refine zlab ?_ _)); refine blk_put (cs := #[.int .i64 ((rd_T86 l0_1 zlak).f0), .string (⟨#[]⟩ : ByteArray), .string (⟨#[]⟩ : ByteArray), .string (⟨#[]⟩ : ByteArray), .int .i64 0]) ?_ 1 _ rfl; (with_reducible repeat (first | refine zlaa ?_ _ | refine zlac ?_ | refine zlab ?_ _)); refine blk_put (cs := #[.int .i64 0, .string (⟨#[]⟩ : ByteArray), .string (⟨#[]⟩ : ByteArray), .string (⟨#[]⟩ : ByteArray), .int .i64 0]) ?_ 0 _ rfl; exact zbk zlas⟩, ⟨by repeat (first | (with_reducible first | exact HB.out | apply zlag | apply zlae | apply zlaf | refine zlad ?_ zlav.out | refine zlad ?_ zlaw.out | refine zlad ?_ zlbd.out) | exact HB.out)⟩⟩
          ·rw [if_neg c26] at H
           have c26b0 : decide (0 < zlak) = false := decide_eq_false c26
           clear c26
           by_cases c32 : a2 ≤ 0
           ·rw [if_pos c32] at H
            have c32b0 : decide (a2 ≤ 0) = true := decide_eq_true c32
            clear c32
            have H' := zlaj H
            clear H
            go_wp2
            go_meet
            case rel => exact ⟨_, (true), (by first | rfl | (simp; done) | (simp [*]; done)), H', ⟨by have := HK1.out; first | omega | exact Nat.le_refl _⟩, ⟨by (with_reducible repeat (first | apply Kd.V_alloc | apply Kd.V_drewN | apply Kd.V_drew)); exact Kd.V_mono (Kd.V_far (p := ⟨zlal, 4, none⟩) (Kd.V_far (p := ⟨zlal, 3, none⟩) (Kd.V_far (p := ⟨zlal, 2, none⟩) (Kd.V_far (p := ⟨zlal, 1, none⟩) (Kd.V_far (p := ⟨zlal, 0, none⟩) (Kd.V_mono HO_283000.out (fun k_ hk => (⟨hk, hk.2⟩ : _ ∧ k_ ≠ zlal))) (fun _ hk => hk.2) (.int .i64 ((rd_T86 l0_1 zlak).f0))) (fun _ hk => hk.2) (.string ((rd_T86 l0_1 zlak).f1))) (fun _ hk => hk.2) (.string ((rd_T86 l0_1 zlak).f2))) (fun _ hk => hk.2) (.string ((rd_T86 l0_1 zlak).f3))) (fun _ hk => hk.2) (.int .i64 ((rd_T86 l0_1 zlak).f4))) (fun _ hk => ⟨hk.1.1.1, ⟨hk.1.1.2.1, ⟨hk.1.1.2.2, hk.1.2⟩⟩⟩)⟩, ⟨by (with_reducible repeat (first | apply Kd.V_alloc | apply Kd.V_drewN | apply Kd.V_drew)); exact Kd.V_mono (Kd.V_far (p := ⟨zlal, 4, none⟩) (Kd.V_far (p := ⟨zlal, 3, none⟩) (Kd.V_far (p := ⟨zlal, 2, none⟩) (Kd.V_far (p := ⟨zlal, 1, none⟩) (Kd.V_far (p := ⟨zlal, 0, none⟩) (Kd.V_mono HO_283001.out (fun k_ hk => (⟨hk, hk.2⟩ : _ ∧ k_ ≠ zlal))) (fun _ hk => hk.2) (.int .i64 ((rd_T86 l0_1 zlak).f0))) (fun _ hk => hk.2) (.string ((rd_T86 l0_1 zlak).f1))) (fun _ hk => hk.2) (.string ((rd_T86 l0_1 zlak).f2))) (fun _ hk => hk.2) (.string ((rd_T86 l0_1 zlak).f3))) (fun _ hk => hk.2) (.int .i64 ((rd_T86 l0_1 zlak).f4))) (fun _ hk => ⟨hk.1.1.1, ⟨hk.1.1.2.1, ⟨hk.1.1.2.2, hk.1.2⟩⟩⟩)⟩, ⟨by (with_reducible repeat (first | apply Kd.V_alloc | apply Kd.V_drewN | apply Kd.V_drew)); exact Kd.V_mono (Kd.V_far (p := ⟨zlal, 4, none⟩) (Kd.V_far (p := ⟨zlal, 3, none⟩) (Kd.V_far (p := ⟨zlal, 2, none⟩) (Kd.V_far (p := ⟨zlal, 1, none⟩) (Kd.V_far (p := ⟨zlal, 0, none⟩) (Kd.V_mono HO_283004.out (fun k_ hk => (⟨hk, hk.2⟩ : _ ∧ k_ ≠ zlal))) (fun _ hk => hk.2) (.int .i64 ((rd_T86 l0_1 zlak).f0))) (fun _ hk => hk.2) (.string ((rd_T86 l0_1 zlak).f1))) (fun _ hk => hk.2) (.string ((rd_T86 l0_1 zlak).f2))) (fun _ hk => hk.2) (.string ((rd_T86 l0_1 zlak).f3))) (fun _ hk => hk.2) (.int .i64 ((rd_T86 l0_1 zlak).f4))) (fun _ hk => ⟨hk.1.1.1, ⟨hk.1.1.2.1, ⟨hk.1.1.2.2, hk.1.2⟩⟩⟩)⟩, ⟨by (iterate 5 ((with_reducible repeat (first | refine zlaa ?_ _ | refine zlac ?_ | refine zlab ?_ _)); refine blk_far ?_ zlan.out _)); exact zbk zlam⟩, ⟨by (iterate 5 ((with_reducible repeat (first | refine zlaa ?_ _ | refine zlac ?_ | refine zlab ?_ _)); refine blk_far ?_ zlao.out _)); exact zbk zlat⟩, ⟨by (with_reducible repeat (first | refine zlaa ?_ _ | refine zlac ?_ | refine zlab ?_ _)); refine blk_put (cs := #[.int .i64 ((rd_T86 l0_1 zlak).f0), .string ((rd_T86 l0_1 zlak).f1), .string ((rd_T86 l0_1 zlak).f2), .string ((rd_T86 l0_1 zlak).f3), .int .i64 0]) ?_ 4 _ rfl; (with_reducible repeat (first | refine zlaa ?_ _ | refine zlac ?_ | refine zlab ?_ _)); refine blk_put (cs := #[.int .i64 ((rd_T86 l0_1 zlak).f0), .string ((rd_T86 l0_1 zlak).f1), .string ((rd_T86 l0_1 zlak).f2), .string (⟨#[]⟩ : ByteArray), .int .i64 0]) ?_ 3 _ rfl; (with_reducible repeat (first | refine zlaa ?_ _ | refine zlac ?_ | refine zlab ?_ _)); refine blk_put (cs := #[.int .i64 ((rd_T86 l0_1 zlak).f0), .string ((rd_T86 l0_1 zlak).f1), .string (⟨#[]⟩ : ByteArray), .string (⟨#[]⟩ : ByteArray), .int .i64 0]) ?_ 2 _ rfl; (with_reducible repeat (first | refine zlaa ?_ _ | refine zlac ?_ | refine zlab ?_ _)); refine blk_put (cs := #[.int .i64 ((rd_T86 l0_1 zlak).f0), .string (⟨#[]⟩ : ByteArray), .string (⟨#[]⟩ : ByteArray), .string (⟨#[]⟩ : ByteArray), .int .i64 0]) ?_ 1 _ rfl; (with_reducible repeat (first | refine zlaa ?_ _ | refine zlac ?_ | refine zlab ?_ _)); refine blk_put (cs := #[.int .i64 0, .string (⟨#[]⟩ : ByteArray), .string (⟨#[]⟩ : ByteArray), .string (⟨#[]⟩ : ByteArray), .int .i64 0]) ?_ 0 _ rfl; exact zbk zlas⟩, ⟨by repeat (first | (with_reducible first | exact HB.out | apply zlag | apply zlae | apply zlaf | refine zlad ?_ zlav.out | refine zlad ?_ zlaw.out | refine zlad ?_ zlbd.out) | exact HB.out)⟩⟩
           ·rw [if_neg c32] at H
            have c32b0 : decide (a2 ≤ 0) = false := decide_eq_false c32
            clear c32
            have H' := zlaj H
            clear H
            have hnb33 := zlbf.out
            have hnc33 := zlan.out
            have hnb34 := zlbg.out
            have hnc34 := zlao.out
            have zled : w19.cell? ⟨zlal, 0, none⟩ = some (.int .i64 0) := (zlah zlas.out 0).trans rfl
            have zlee : w19.cell? ⟨zlal, 1, none⟩ = some (.string (⟨#[]⟩ : ByteArray)) := (zlah zlas.out 1).trans rfl
            have zlef : w19.cell? ⟨zlal, 2, none⟩ = some (.string (⟨#[]⟩ : ByteArray)) := (zlah zlas.out 2).trans rfl
            have zleg : w19.cell? ⟨zlal, 3, none⟩ = some (.string (⟨#[]⟩ : ByteArray)) := (zlah zlas.out 3).trans rfl
            have zleh : w19.cell? ⟨zlal, 4, none⟩ = some (.int .i64 0) := (zlah zlas.out 4).trans rfl
            have zlei := zlai zlas.out 0
            have zlej := zlai zlas.out 1
            have zlek := zlai zlas.out 2
            have zlel := zlai zlas.out 3
            have zlem := zlai zlas.out 4
            go_wp2
            go_meet
            case rel => exact ⟨_, (decide (((rd_T86 l0_1 zlak).f0) > 1)), (by first | rfl | (simp; done) | (simp [*]; done)), H', ⟨by have := HK1.out; first | omega | exact Nat.le_refl _⟩, ⟨by (with_reducible repeat (first | apply Kd.V_alloc | apply Kd.V_drewN | apply Kd.V_drew)); exact Kd.V_mono (Kd.V_far (p := ⟨zlal, 4, none⟩) (Kd.V_far (p := ⟨zlal, 3, none⟩) (Kd.V_far (p := ⟨zlal, 2, none⟩) (Kd.V_far (p := ⟨zlal, 1, none⟩) (Kd.V_far (p := ⟨zlal, 0, none⟩) (Kd.V_mono HO_283000.out (fun k_ hk => (⟨hk, hk.2⟩ : _ ∧ k_ ≠ zlal))) (fun _ hk => hk.2) (.int .i64 ((rd_T86 l0_1 zlak).f0))) (fun _ hk => hk.2) (.string ((rd_T86 l0_1 zlak).f1))) (fun _ hk => hk.2) (.string ((rd_T86 l0_1 zlak).f2))) (fun _ hk => hk.2) (.string ((rd_T86 l0_1 zlak).f3))) (fun _ hk => hk.2) (.int .i64 ((rd_T86 l0_1 zlak).f4))) (fun _ hk => ⟨hk.1.1.1, ⟨hk.1.1.2.1, ⟨hk.1.1.2.2, hk.1.2⟩⟩⟩)⟩, ⟨by (with_reducible repeat (first | apply Kd.V_alloc | apply Kd.V_drewN | apply Kd.V_drew)); exact Kd.V_mono (Kd.V_far (p := ⟨zlal, 4, none⟩) (Kd.V_far (p := ⟨zlal, 3, none⟩) (Kd.V_far (p := ⟨zlal, 2, none⟩) (Kd.V_far (p := ⟨zlal, 1, none⟩) (Kd.V_far (p := ⟨zlal, 0, none⟩) (Kd.V_mono HO_283001.out (fun k_ hk => (⟨hk, hk.2⟩ : _ ∧ k_ ≠ zlal))) (fun _ hk => hk.2) (.int .i64 ((rd_T86 l0_1 zlak).f0))) (fun _ hk => hk.2) (.string ((rd_T86 l0_1 zlak).f1))) (fun _ hk => hk.2) (.string ((rd_T86 l0_1 zlak).f2))) (fun _ hk => hk.2) (.string ((rd_T86 l0_1 zlak).f3))) (fun _ hk => hk.2) (.int .i64 ((rd_T86 l0_1 zlak).f4))) (fun _ hk => ⟨hk.1.1.1, ⟨hk.1.1.2.1, ⟨hk.1.1.2.2, hk.1.2⟩⟩⟩)⟩, ⟨by (with_reducible repeat (first | apply Kd.V_alloc | apply Kd.V_drewN | apply Kd.V_drew)); exact Kd.V_mono (Kd.V_far (p := ⟨zlal, 4, none⟩) (Kd.V_far (p := ⟨zlal, 3, none⟩) (Kd.V_far (p := ⟨zlal, 2, none⟩) (Kd.V_far (p := ⟨zlal, 1, none⟩) (Kd.V_far (p := ⟨zlal, 0, none⟩) (Kd.V_mono HO_283004.out (fun k_ hk => (⟨hk, hk.2⟩ : _ ∧ k_ ≠ zlal))) (fun _ hk => hk.2) (.int .i64 ((rd_T86 l0_1 zlak).f0))) (fun _ hk => hk.2) (.string ((rd_T86 l0_1 zlak).f1))) (fun _ hk => hk.2) (.string ((rd_T86 l0_1 zlak).f2))) (fun _ hk => hk.2) (.string ((rd_T86 l0_1 zlak).f3))) (fun _ hk => hk.2) (.int .i64 ((rd_T86 l0_1 zlak).f4))) (fun _ hk => ⟨hk.1.1.1, ⟨hk.1.1.2.1, ⟨hk.1.1.2.2, hk.1.2⟩⟩⟩)⟩, ⟨by (iterate 5 ((with_reducible repeat (first | refine zlaa ?_ _ | refine zlac ?_ | refine zlab ?_ _)); refine blk_far ?_ zlan.out _)); exact zbk zlam⟩, ⟨by (iterate 5 ((with_reducible repeat (first | refine zlaa ?_ _ | refine zlac ?_ | refine zlab ?_ _)); refine blk_far ?_ zlao.out _)); exact zbk zlat⟩, ⟨by (with_reducible repeat (first | refine zlaa ?_ _ | refine zlac ?_ | refine zlab ?_ _)); refine blk_put (cs := #[.int .i64 ((rd_T86 l0_1 zlak).f0), .string ((rd_T86 l0_1 zlak).f1), .string ((rd_T86 l0_1 zlak).f2), .string ((rd_T86 l0_1 zlak).f3), .int .i64 0]) ?_ 4 _ rfl; (with_reducible repeat (first | refine zlaa ?_ _ | refine zlac ?_ | refine zlab ?_ _)); refine blk_put (cs := #[.int .i64 ((rd_T86 l0_1 zlak).f0), .string ((rd_T86 l0_1 zlak).f1), .string ((rd_T86 l0_1 zlak).f2), .string (⟨#[]⟩ : ByteArray), .int .i64 0]) ?_ 3 _ rfl; (with_reducible repeat (first | refine zlaa ?_ _ | refine zlac ?_ | refine zlab ?_ _)); refine blk_put (cs := #[.int .i64 ((rd_T86 l0_1 zlak).f0), .string ((rd_T86 l0_1 zlak).f1), .string (⟨#[]⟩ : ByteArray), .string (⟨#[]⟩ : ByteArray), .int .i64 0]) ?_ 2 _ rfl; (with_reducible repeat (first | refine zlaa ?_ _ | refine zlac ?_ | refine zlab ?_ _)); refine blk_put (cs := #[.int .i64 ((rd_T86 l0_1 zlak).f0), .string (⟨#[]⟩ : ByteArray), .string (⟨#[]⟩ : ByteArray), .string (⟨#[]⟩ : ByteArray), .int .i64 0]) ?_ 1 _ rfl; (with_reducible repeat (first | refine zlaa ?_ _ | refine zlac ?_ | refine zlab ?_ _)); refine blk_put (cs := #[.int .i64 0, .string (⟨#[]⟩ : ByteArray), .string (⟨#[]⟩ : ByteArray), .string (⟨#[]⟩ : ByteArray), .int .i64 0]) ?_ 0 _ rfl; exact zbk zlas⟩, ⟨by repeat (first | (with_reducible first | exact HB.out | apply zlag | apply zlae | apply zlaf | refine zlad ?_ zlav.out | refine zlad ?_ zlaw.out | refine zlad ?_ zlbd.out) | exact HB.out)⟩⟩
        ·rw [if_neg c24] at H
         have c24b0 : decide (a1 < zlak) = false := decide_eq_false c24
         clear c24
         by_cases c36 : zlak > 0
         ·rw [if_pos c36] at H
          have c36b0 : decide (0 < zlak) = true := decide_eq_true c36
          clear c36
          by_cases c37 : a1 < 0
          ·rw [if_pos c37] at H
           have c37b0 : decide (a1 < 0) = true := decide_eq_true c37
           clear c37
           have H' := zlaj H
           clear H
           go_wp2
           go_meet
           case rel => exact ⟨_, (true), (by first | rfl | (simp; done) | (simp [*]; done)), H', ⟨by have := HK1.out; first | omega | exact Nat.le_refl _⟩, ⟨by (with_reducible repeat (first | apply Kd.V_alloc | apply Kd.V_drewN | apply Kd.V_drew)); exact Kd.V_mono (Kd.V_far (p := ⟨zlal, 4, none⟩) (Kd.V_far (p := ⟨zlal, 3, none⟩) (Kd.V_far (p := ⟨zlal, 2, none⟩) (Kd.V_far (p := ⟨zlal, 1, none⟩) (Kd.V_far (p := ⟨zlal, 0, none⟩) (Kd.V_mono HO_283000.out (fun k_ hk => (⟨hk, hk.2⟩ : _ ∧ k_ ≠ zlal))) (fun _ hk => hk.2) (.int .i64 ((rd_T86 l0_1 zlak).f0))) (fun _ hk => hk.2) (.string ((rd_T86 l0_1 zlak).f1))) (fun _ hk => hk.2) (.string ((rd_T86 l0_1 zlak).f2))) (fun _ hk => hk.2) (.string ((rd_T86 l0_1 zlak).f3))) (fun _ hk => hk.2) (.int .i64 ((rd_T86 l0_1 zlak).f4))) (fun _ hk => ⟨hk.1.1.1, ⟨hk.1.1.2.1, ⟨hk.1.1.2.2, hk.1.2⟩⟩⟩)⟩, ⟨by (with_reducible repeat (first | apply Kd.V_alloc | apply Kd.V_drewN | apply Kd.V_drew)); exact Kd.V_mono (Kd.V_far (p := ⟨zlal, 4, none⟩) (Kd.V_far (p := ⟨zlal, 3, none⟩) (Kd.V_far (p := ⟨zlal, 2, none⟩) (Kd.V_far (p := ⟨zlal, 1, none⟩) (Kd.V_far (p := ⟨zlal, 0, none⟩) (Kd.V_mono HO_283001.out (fun k_ hk => (⟨hk, hk.2⟩ : _ ∧ k_ ≠ zlal))) (fun _ hk => hk.2) (.int .i64 ((rd_T86 l0_1 zlak).f0))) (fun _ hk => hk.2) (.string ((rd_T86 l0_1 zlak).f1))) (fun _ hk => hk.2) (.string ((rd_T86 l0_1 zlak).f2))) (fun _ hk => hk.2) (.string ((rd_T86 l0_1 zlak).f3))) (fun _ hk => hk.2) (.int .i64 ((rd_T86 l0_1 zlak).f4))) (fun _ hk => ⟨hk.1.1.1, ⟨hk.1.1.2.1, ⟨hk.1.1.2.2, hk.1.2⟩⟩⟩)⟩, ⟨by (with_reducible repeat (first | apply Kd.V_alloc | apply Kd.V_drewN | apply Kd.V_drew)); exact Kd.V_mono (Kd.V_far (p := ⟨zlal, 4, none⟩) (Kd.V_far (p := ⟨zlal, 3, none⟩) (Kd.V_far (p := ⟨zlal, 2, none⟩) (Kd.V_far (p := ⟨zlal, 1, none⟩) (Kd.V_far (p := ⟨zlal, 0, none⟩) (Kd.V_mono HO_283004.out (fun k_ hk => (⟨hk, hk.2⟩ : _ ∧ k_ ≠ zlal))) (fun _ hk => hk.2) (.int .i64 ((rd_T86 l0_1 zlak).f0))) (fun _ hk => hk.2) (.string ((rd_T86 l0_1 zlak).f1))) (fun _ hk => hk.2) (.string ((rd_T86 l0_1 zlak).f2))) (fun _ hk => hk.2) (.string ((rd_T86 l0_1 zlak).f3))) (fun _ hk => hk.2) (.int .i64 ((rd_T86 l0_1 zlak).f4))) (fun _ hk => ⟨hk.1.1.1, ⟨hk.1.1.2.1, ⟨hk.1.1.2.2, hk.1.2⟩⟩⟩)⟩, ⟨by (iterate 5 ((with_reducible repeat (first | refine zlaa ?_ _ | refine zlac ?_ | refine zlab ?_ _)); refine blk_far ?_ zlan.out _)); exact zbk zlam⟩, ⟨by (iterate 5 ((with_reducible repeat (first | refine zlaa ?_ _ | refine zlac ?_ | refine zlab ?_ _)); refine blk_far ?_ zlao.out _)); exact zbk zlat⟩, ⟨by (with_reducible repeat (first | refine zlaa ?_ _ | refine zlac ?_ | refine zlab ?_ _)); refine blk_put (cs := #[.int .i64 ((rd_T86 l0_1 zlak).f0), .string ((rd_T86 l0_1 zlak).f1), .string ((rd_T86 l0_1 zlak).f2), .string ((rd_T86 l0_1 zlak).f3), .int .i64 0]) ?_ 4 _ rfl; (with_reducible repeat (first | refine zlaa ?_ _ | refine zlac ?_ | refine zlab ?_ _)); refine blk_put (cs := #[.int .i64 ((rd_T86 l0_1 zlak).f0), .string ((rd_T86 l0_1 zlak).f1), .string ((rd_T86 l0_1 zlak).f2), .string (⟨#[]⟩ : ByteArray), .int .i64 0]) ?_ 3 _ rfl; (with_reducible repeat (first | refine zlaa ?_ _ | refine zlac ?_ | refine zlab ?_ _)); refine blk_put (cs := #[.int .i64 ((rd_T86 l0_1 zlak).f0), .string ((rd_T86 l0_1 zlak).f1), .string (⟨#[]⟩ : ByteArray), .string (⟨#[]⟩ : ByteArray), .int .i64 0]) ?_ 2 _ rfl; (with_reducible repeat (first | refine zlaa ?_ _ | refine zlac ?_ | refine zlab ?_ _)); refine blk_put (cs := #[.int .i64 ((rd_T86 l0_1 zlak).f0), .string (⟨#[]⟩ : ByteArray), .string (⟨#[]⟩ : ByteArray), .string (⟨#[]⟩ : ByteArray), .int .i64 0]) ?_ 1 _ rfl; (with_reducible repeat (first | refine zlaa ?_ _ | refine zlac ?_ | refine zlab ?_ _)); refine blk_put (cs := #[.int .i64 0, .string (⟨#[]⟩ : ByteArray), .string (⟨#[]⟩ : ByteArray), .string (⟨#[]⟩ : ByteArray), .int .i64 0]) ?_ 0 _ rfl; exact zbk zlas⟩, ⟨by repeat (first | (with_reducible first | exact HB.out | apply zlag | apply zlae | apply zlaf | refine zlad ?_ zlav.out | refine zlad ?_ zlaw.out | refine zlad ?_ zlbd.out) | exact HB.out)⟩⟩
          ·rw [if_neg c37] at H
           have c37b0 : decide (a1 < 0) = false := decide_eq_false c37
           clear c37
           by_cases c38 : a2 ≤ 0
           ·rw [if_pos c38] at H
            have c38b0 : decide (a2 ≤ 0) = true := decide_eq_true c38
            clear c38
            have H' := zlaj H
            clear H
            go_wp2
            go_meet
            case rel => exact ⟨_, (true), (by first | rfl | (simp; done) | (simp [*]; done)), H', ⟨by have := HK1.out; first | omega | exact Nat.le_refl _⟩, ⟨by (with_reducible repeat (first | apply Kd.V_alloc | apply Kd.V_drewN | apply Kd.V_drew)); exact Kd.V_mono (Kd.V_far (p := ⟨zlal, 4, none⟩) (Kd.V_far (p := ⟨zlal, 3, none⟩) (Kd.V_far (p := ⟨zlal, 2, none⟩) (Kd.V_far (p := ⟨zlal, 1, none⟩) (Kd.V_far (p := ⟨zlal, 0, none⟩) (Kd.V_mono HO_283000.out (fun k_ hk => (⟨hk, hk.2⟩ : _ ∧ k_ ≠ zlal))) (fun _ hk => hk.2) (.int .i64 ((rd_T86 l0_1 zlak).f0))) (fun _ hk => hk.2) (.string ((rd_T86 l0_1 zlak).f1))) (fun _ hk => hk.2) (.string ((rd_T86 l0_1 zlak).f2))) (fun _ hk => hk.2) (.string ((rd_T86 l0_1 zlak).f3))) (fun _ hk => hk.2) (.int .i64 ((rd_T86 l0_1 zlak).f4))) (fun _ hk => ⟨hk.1.1.1, ⟨hk.1.1.2.1, ⟨hk.1.1.2.2, hk.1.2⟩⟩⟩)⟩, ⟨by (with_reducible repeat (first | apply Kd.V_alloc | apply Kd.V_drewN | apply Kd.V_drew)); exact Kd.V_mono (Kd.V_far (p := ⟨zlal, 4, none⟩) (Kd.V_far (p := ⟨zlal, 3, none⟩) (Kd.V_far (p := ⟨zlal, 2, none⟩) (Kd.V_far (p := ⟨zlal, 1, none⟩) (Kd.V_far (p := ⟨zlal, 0, none⟩) (Kd.V_mono HO_283001.out (fun k_ hk => (⟨hk, hk.2⟩ : _ ∧ k_ ≠ zlal))) (fun _ hk => hk.2) (.int .i64 ((rd_T86 l0_1 zlak).f0))) (fun _ hk => hk.2) (.string ((rd_T86 l0_1 zlak).f1))) (fun _ hk => hk.2) (.string ((rd_T86 l0_1 zlak).f2))) (fun _ hk => hk.2) (.string ((rd_T86 l0_1 zlak).f3))) (fun _ hk => hk.2) (.int .i64 ((rd_T86 l0_1 zlak).f4))) (fun _ hk => ⟨hk.1.1.1, ⟨hk.1.1.2.1, ⟨hk.1.1.2.2, hk.1.2⟩⟩⟩)⟩, ⟨by (with_reducible repeat (first | apply Kd.V_alloc | apply Kd.V_drewN | apply Kd.V_drew)); exact Kd.V_mono (Kd.V_far (p := ⟨zlal, 4, none⟩) (Kd.V_far (p := ⟨zlal, 3, none⟩) (Kd.V_far (p := ⟨zlal, 2, none⟩) (Kd.V_far (p := ⟨zlal, 1, none⟩) (Kd.V_far (p := ⟨zlal, 0, none⟩) (Kd.V_mono HO_283004.out (fun k_ hk => (⟨hk, hk.2⟩ : _ ∧ k_ ≠ zlal))) (fun _ hk => hk.2) (.int .i64 ((rd_T86 l0_1 zlak).f0))) (fun _ hk => hk.2) (.string ((rd_T86 l0_1 zlak).f1))) (fun _ hk => hk.2) (.string ((rd_T86 l0_1 zlak).f2))) (fun _ hk => hk.2) (.string ((rd_T86 l0_1 zlak).f3))) (fun _ hk => hk.2) (.int .i64 ((rd_T86 l0_1 zlak).f4))) (fun _ hk => ⟨hk.1.1.1, ⟨hk.1.1.2.1, ⟨hk.1.1.2.2, hk.1.2⟩⟩⟩)⟩, ⟨by (iterate 5 ((with_reducible repeat (first | refine zlaa ?_ _ | refine zlac ?_ | refine zlab ?_ _)); refine blk_far ?_ zlan.out _)); exact zbk zlam⟩, ⟨by (iterate 5 ((with_reducible repeat (first | refine zlaa ?_ _ | refine zlac ?_ | refine zlab ?_ _)); refine blk_far ?_ zlao.out _)); exact zbk zlat⟩, ⟨by (with_reducible repeat (first | refine zlaa ?_ _ | refine zlac ?_ | refine zlab ?_ _)); refine blk_put (cs := #[.int .i64 ((rd_T86 l0_1 zlak).f0), .string ((rd_T86 l0_1 zlak).f1), .string ((rd_T86 l0_1 zlak).f2), .string ((rd_T86 l0_1 zlak).f3), .int .i64 0]) ?_ 4 _ rfl; (with_reducible repeat (first | refine zlaa ?_ _ | refine zlac ?_ | refine zlab ?_ _)); refine blk_put (cs := #[.int .i64 ((rd_T86 l0_1 zlak).f0), .string ((rd_T86 l0_1 zlak).f1), .string ((rd_T86 l0_1 zlak).f2), .string (⟨#[]⟩ : ByteArray), .int .i64 0]) ?_ 3 _ rfl; (with_reducible repeat (first | refine zlaa ?_ _ | refine zlac ?_ | refine zlab ?_ _)); refine blk_put (cs := #[.int .i64 ((rd_T86 l0_1 zlak).f0), .string ((rd_T86 l0_1 zlak).f1), .string (⟨#[]⟩ : ByteArray), .string (⟨#[]⟩ : ByteArray), .int .i64 0]) ?_ 2 _ rfl; (with_reducible repeat (first | refine zlaa ?_ _ | refine zlac ?_ | refine zlab ?_ _)); refine blk_put (cs := #[.int .i64 ((rd_T86 l0_1 zlak).f0), .string (⟨#[]⟩ : ByteArray), .string (⟨#[]⟩ : ByteArray), .string (⟨#[]⟩ : ByteArray), .int .i64 0]) ?_ 1 _ rfl; (with_reducible repeat (first | refine zlaa ?_ _ | refine zlac ?_ | refine zlab ?_ _)); refine blk_put (cs := #[.int .i64 0, .string (⟨#[]⟩ : ByteArray), .string (⟨#[]⟩ : ByteArray), .string (⟨#[]⟩ : ByteArray), .int .i64 0]) ?_ 0 _ rfl; exact zbk zlas⟩, ⟨by repeat (first | (with_reducible first | exact HB.out | apply zlag | apply zlae | apply zlaf | refine zlad ?_ zlav.out | refine zlad ?_ zlaw.out | refine zlad ?_ zlbd.out) | exact HB.out)⟩⟩
           ·rw [if_neg c38] at H
            have c38b0 : decide (a2 ≤ 0) = false := decide_eq_false c38
            clear c38
            have H' := zlaj H
            clear H
            have hnb39 := zlbf.out
            have hnc39 := zlan.out
            have hnb40 := zlbg.out
            have hnc40 := zlao.out
            have zlen : w19.cell? ⟨zlal, 0, none⟩ = some (.int .i64 0) := (zlah zlas.out 0).trans rfl
            have zleo : w19.cell? ⟨zlal, 1, none⟩ = some (.string (⟨#[]⟩ : ByteArray)) := (zlah zlas.out 1).trans rfl
            have zlep : w19.cell? ⟨zlal, 2, none⟩ = some (.string (⟨#[]⟩ : ByteArray)) := (zlah zlas.out 2).trans rfl
            have zleq : w19.cell? ⟨zlal, 3, none⟩ = some (.string (⟨#[]⟩ : ByteArray)) := (zlah zlas.out 3).trans rfl
            have zler : w19.cell? ⟨zlal, 4, none⟩ = some (.int .i64 0) := (zlah zlas.out 4).trans rfl
            have zles := zlai zlas.out 0
            have zlet := zlai zlas.out 1
            have zleu := zlai zlas.out 2
            have zlev := zlai zlas.out 3
            have zlew := zlai zlas.out 4
            go_wp2
            go_meet
            case rel => exact ⟨_, (decide (((rd_T86 l0_1 zlak).f0) > 1)), (by first | rfl | (simp; done) | (simp [*]; done)), H', ⟨by have := HK1.out; first | omega | exact Nat.le_refl _⟩, ⟨by (with_reducible repeat (first | apply Kd.V_alloc | apply Kd.V_drewN | apply Kd.V_drew)); exact Kd.V_mono (Kd.V_far (p := ⟨zlal, 4, none⟩) (Kd.V_far (p := ⟨zlal, 3, none⟩) (Kd.V_far (p := ⟨zlal, 2, none⟩) (Kd.V_far (p := ⟨zlal, 1, none⟩) (Kd.V_far (p := ⟨zlal, 0, none⟩) (Kd.V_mono HO_283000.out (fun k_ hk => (⟨hk, hk.2⟩ : _ ∧ k_ ≠ zlal))) (fun _ hk => hk.2) (.int .i64 ((rd_T86 l0_1 zlak).f0))) (fun _ hk => hk.2) (.string ((rd_T86 l0_1 zlak).f1))) (fun _ hk => hk.2) (.string ((rd_T86 l0_1 zlak).f2))) (fun _ hk => hk.2) (.string ((rd_T86 l0_1 zlak).f3))) (fun _ hk => hk.2) (.int .i64 ((rd_T86 l0_1 zlak).f4))) (fun _ hk => ⟨hk.1.1.1, ⟨hk.1.1.2.1, ⟨hk.1.1.2.2, hk.1.2⟩⟩⟩)⟩, ⟨by (with_reducible repeat (first | apply Kd.V_alloc | apply Kd.V_drewN | apply Kd.V_drew)); exact Kd.V_mono (Kd.V_far (p := ⟨zlal, 4, none⟩) (Kd.V_far (p := ⟨zlal, 3, none⟩) (Kd.V_far (p := ⟨zlal, 2, none⟩) (Kd.V_far (p := ⟨zlal, 1, none⟩) (Kd.V_far (p := ⟨zlal, 0, none⟩) (Kd.V_mono HO_283001.out (fun k_ hk => (⟨hk, hk.2⟩ : _ ∧ k_ ≠ zlal))) (fun _ hk => hk.2) (.int .i64 ((rd_T86 l0_1 zlak).f0))) (fun _ hk => hk.2) (.string ((rd_T86 l0_1 zlak).f1))) (fun _ hk => hk.2) (.string ((rd_T86 l0_1 zlak).f2))) (fun _ hk => hk.2) (.string ((rd_T86 l0_1 zlak).f3))) (fun _ hk => hk.2) (.int .i64 ((rd_T86 l0_1 zlak).f4))) (fun _ hk => ⟨hk.1.1.1, ⟨hk.1.1.2.1, ⟨hk.1.1.2.2, hk.1.2⟩⟩⟩)⟩, ⟨by (with_reducible repeat (first | apply Kd.V_alloc | apply Kd.V_drewN | apply Kd.V_drew)); exact Kd.V_mono (Kd.V_far (p := ⟨zlal, 4, none⟩) (Kd.V_far (p := ⟨zlal, 3, none⟩) (Kd.V_far (p := ⟨zlal, 2, none⟩) (Kd.V_far (p := ⟨zlal, 1, none⟩) (Kd.V_far (p := ⟨zlal, 0, none⟩) (Kd.V_mono HO_283004.out (fun k_ hk => (⟨hk, hk.2⟩ : _ ∧ k_ ≠ zlal))) (fun _ hk => hk.2) (.int .i64 ((rd_T86 l0_1 zlak).f0))) (fun _ hk => hk.2) (.string ((rd_T86 l0_1 zlak).f1))) (fun _ hk => hk.2) (.string ((rd_T86 l0_1 zlak).f2))) (fun _ hk => hk.2) (.string ((rd_T86 l0_1 zlak).f3))) (fun _ hk => hk.2) (.int .i64 ((rd_T86 l0_1 zlak).f4))) (fun _ hk => ⟨hk.1.1.1, ⟨hk.1.1.2.1, ⟨hk.1.1.2.2, hk.1.2⟩⟩⟩)⟩, ⟨by (iterate 5 ((with_reducible repeat (first | refine zlaa ?_ _ | refine zlac ?_ | refine zlab ?_ _)); refine blk_far ?_ zlan.out _)); exact zbk zlam⟩, ⟨by (iterate 5 ((with_reducible repeat (first | refine zlaa ?_ _ | refine zlac ?_ | refine zlab ?_ _)); refine blk_far ?_ zlao.out _)); exact zbk zlat⟩, ⟨by (with_reducible repeat (first | refine zlaa ?_ _ | refine zlac ?_ | refine zlab ?_ _)); refine blk_put (cs := #[.int .i64 ((rd_T86 l0_1 zlak).f0), .string ((rd_T86 l0_1 zlak).f1), .string ((rd_T86 l0_1 zlak).f2), .string ((rd_T86 l0_1 zlak).f3), .int .i64 0]) ?_ 4 _ rfl; (with_reducible repeat (first | refine zlaa ?_ _ | refine zlac ?_ | refine zlab ?_ _)); refine blk_put (cs := #[.int .i64 ((rd_T86 l0_1 zlak).f0), .string ((rd_T86 l0_1 zlak).f1), .string ((rd_T86 l0_1 zlak).f2), .string (⟨#[]⟩ : ByteArray), .int .i64 0]) ?_ 3 _ rfl; (with_reducible repeat (first | refine zlaa ?_ _ | refine zlac ?_ | refine zlab ?_ _)); refine blk_put (cs := #[.int .i64 ((rd_T86 l0_1 zlak).f0), .string ((rd_T86 l0_1 zlak).f1), .string (⟨#[]⟩ : ByteArray), .string (⟨#[]⟩ : ByteArray), .int .i64 0]) ?_ 2 _ rfl; (with_reducible repeat (first | refine zlaa ?_ _ | refine zlac ?_ | refine zlab ?_ _)); refine blk_put (cs := #[.int .i64 ((rd_T86 l0_1 zlak).f0), .string (⟨#[]⟩ : ByteArray), .string (⟨#[]⟩ : ByteArray), .string (⟨#[]⟩ : ByteArray), .int .i64 0]) ?_ 1 _ rfl; (with_reducible repeat (first | refine zlaa ?_ _ | refine zlac ?_ | refine zlab ?_ _)); refine blk_put (cs := #[.int .i64 0, .string (⟨#[]⟩ : ByteArray), .string (⟨#[]⟩ : ByteArray), .string (⟨#[]⟩ : ByteArray), .int .i64 0]) ?_ 0 _ rfl; exact zbk zlas⟩, ⟨by repeat (first | (with_reducible first | exact HB.out | apply zlag | apply zlae | apply zlaf | refine zlad ?_ zlav.out | refine zlad ?_ zlaw.out | refine zlad ?_ zlbd.out) | exact HB.out)⟩⟩
         ·rw [if_neg c36] at H
          have c36b0 : decide (0 < zlak) = false := decide_eq_false c36
          clear c36
          by_cases c42 : a2 ≤ 0
          ·rw [if_pos c42] at H
           have c42b0 : decide (a2 ≤ 0) = true := decide_eq_true c42
           clear c42
           have H' := zlaj H
           clear H
           go_wp2
           go_meet
           case rel => exact ⟨_, (true), (by first | rfl | (simp; done) | (simp [*]; done)), H', ⟨by have := HK1.out; first | omega | exact Nat.le_refl _⟩, ⟨by (with_reducible repeat (first | apply Kd.V_alloc | apply Kd.V_drewN | apply Kd.V_drew)); exact Kd.V_mono (Kd.V_far (p := ⟨zlal, 4, none⟩) (Kd.V_far (p := ⟨zlal, 3, none⟩) (Kd.V_far (p := ⟨zlal, 2, none⟩) (Kd.V_far (p := ⟨zlal, 1, none⟩) (Kd.V_far (p := ⟨zlal, 0, none⟩) (Kd.V_mono HO_283000.out (fun k_ hk => (⟨hk, hk.2⟩ : _ ∧ k_ ≠ zlal))) (fun _ hk => hk.2) (.int .i64 ((rd_T86 l0_1 zlak).f0))) (fun _ hk => hk.2) (.string ((rd_T86 l0_1 zlak).f1))) (fun _ hk => hk.2) (.string ((rd_T86 l0_1 zlak).f2))) (fun _ hk => hk.2) (.string ((rd_T86 l0_1 zlak).f3))) (fun _ hk => hk.2) (.int .i64 ((rd_T86 l0_1 zlak).f4))) (fun _ hk => ⟨hk.1.1.1, ⟨hk.1.1.2.1, ⟨hk.1.1.2.2, hk.1.2⟩⟩⟩)⟩, ⟨by (with_reducible repeat (first | apply Kd.V_alloc | apply Kd.V_drewN | apply Kd.V_drew)); exact Kd.V_mono (Kd.V_far (p := ⟨zlal, 4, none⟩) (Kd.V_far (p := ⟨zlal, 3, none⟩) (Kd.V_far (p := ⟨zlal, 2, none⟩) (Kd.V_far (p := ⟨zlal, 1, none⟩) (Kd.V_far (p := ⟨zlal, 0, none⟩) (Kd.V_mono HO_283001.out (fun k_ hk => (⟨hk, hk.2⟩ : _ ∧ k_ ≠ zlal))) (fun _ hk => hk.2) (.int .i64 ((rd_T86 l0_1 zlak).f0))) (fun _ hk => hk.2) (.string ((rd_T86 l0_1 zlak).f1))) (fun _ hk => hk.2) (.string ((rd_T86 l0_1 zlak).f2))) (fun _ hk => hk.2) (.string ((rd_T86 l0_1 zlak).f3))) (fun _ hk => hk.2) (.int .i64 ((rd_T86 l0_1 zlak).f4))) (fun _ hk => ⟨hk.1.1.1, ⟨hk.1.1.2.1, ⟨hk.1.1.2.2, hk.1.2⟩⟩⟩)⟩, ⟨by (with_reducible repeat (first | apply Kd.V_alloc | apply Kd.V_drewN | apply Kd.V_drew)); exact Kd.V_mono (Kd.V_far (p := ⟨zlal, 4, none⟩) (Kd.V_far (p := ⟨zlal, 3, none⟩) (Kd.V_far (p := ⟨zlal, 2, none⟩) (Kd.V_far (p := ⟨zlal, 1, none⟩) (Kd.V_far (p := ⟨zlal, 0, none⟩) (Kd.V_mono HO_283004.out (fun k_ hk => (⟨hk, hk.2⟩ : _ ∧ k_ ≠ zlal))) (fun _ hk => hk.2) (.int .i64 ((rd_T86 l0_1 zlak).f0))) (fun _ hk => hk.2) (.string ((rd_T86 l0_1 zlak).f1))) (fun _ hk => hk.2) (.string ((rd_T86 l0_1 zlak).f2))) (fun _ hk => hk.2) (.string ((rd_T86 l0_1 zlak).f3))) (fun _ hk => hk.2) (.int .i64 ((rd_T86 l0_1 zlak).f4))) (fun _ hk => ⟨hk.1.1.1, ⟨hk.1.1.2.1, ⟨hk.1.1.2.2, hk.1.2⟩⟩⟩)⟩, ⟨by (iterate 5 ((with_reducible repeat (first | refine zlaa ?_ _ | refine zlac ?_ | refine zlab ?_ _)); refine blk_far ?_ zlan.out _)); exact zbk zlam⟩, ⟨by (iterate 5 ((with_reducible repeat (first | refine zlaa ?_ _ | refine zlac ?_ | refine zlab ?_ _)); refine blk_far ?_ zlao.out _)); exact zbk zlat⟩, ⟨by (with_reducible repeat (first | refine zlaa ?_ _ | refine zlac ?_ | refine zlab ?_ _)); refine blk_put (cs := #[.int .i64 ((rd_T86 l0_1 zlak).f0), .string ((rd_T86 l0_1 zlak).f1), .string ((rd_T86 l0_1 zlak).f2), .string ((rd_T86 l0_1 zlak).f3), .int .i64 0]) ?_ 4 _ rfl; (with_reducible repeat (first | refine zlaa ?_ _ | refine zlac ?_ | refine zlab ?_ _)); refine blk_put (cs := #[.int .i64 ((rd_T86 l0_1 zlak).f0), .string ((rd_T86 l0_1 zlak).f1), .string ((rd_T86 l0_1 zlak).f2), .string (⟨#[]⟩ : ByteArray), .int .i64 0]) ?_ 3 _ rfl; (with_reducible repeat (first | refine zlaa ?_ _ | refine zlac ?_ | refine zlab ?_ _)); refine blk_put (cs := #[.int .i64 ((rd_T86 l0_1 zlak).f0), .string ((rd_T86 l0_1 zlak).f1), .string (⟨#[]⟩ : ByteArray), .string (⟨#[]⟩ : ByteArray), .int .i64 0]) ?_ 2 _ rfl; (with_reducible repeat (first | refine zlaa ?_ _ | refine zlac ?_ | refine zlab ?_ _)); refine blk_put (cs := #[.int .i64 ((rd_T86 l0_1 zlak).f0), .string (⟨#[]⟩ : ByteArray), .string (⟨#[]⟩ : ByteArray), .string (⟨#[]⟩ : ByteArray), .int .i64 0]) ?_ 1 _ rfl; (with_reducible repeat (first | refine zlaa ?_ _ | refine zlac ?_ | refine zlab ?_ _)); refine blk_put (cs := #[.int .i64 0, .string (⟨#[]⟩ : ByteArray), .string (⟨#[]⟩ : ByteArray), .string (⟨#[]⟩ : ByteArray), .int .i64 0]) ?_ 0 _ rfl; exact zbk zlas⟩, ⟨by repeat (first | (with_reducible first | exact HB.out | apply zlag | apply zlae | apply zlaf | refine zlad ?_ zlav.out | refine zlad ?_ zlaw.out | refine zlad ?_ zlbd.out) | exact HB.out)⟩⟩
          ·rw [if_neg c42] at H
           have c42b0 : decide (a2 ≤ 0) = false := decide_eq_false c42
           clear c42
           have H' := zlaj H
           clear H
           have hnb43 := zlbf.out
           have hnc43 := zlan.out
           have hnb44 := zlbg.out
           have hnc44 := zlao.out
           have zlex : w19.cell? ⟨zlal, 0, none⟩ = some (.int .i64 0) := (zlah zlas.out 0).trans rfl
           have zley : w19.cell? ⟨zlal, 1, none⟩ = some (.string (⟨#[]⟩ : ByteArray)) := (zlah zlas.out 1).trans rfl
           have zlez : w19.cell? ⟨zlal, 2, none⟩ = some (.string (⟨#[]⟩ : ByteArray)) := (zlah zlas.out 2).trans rfl
           have zlfa : w19.cell? ⟨zlal, 3, none⟩ = some (.string (⟨#[]⟩ : ByteArray)) := (zlah zlas.out 3).trans rfl
           have zlfb : w19.cell? ⟨zlal, 4, none⟩ = some (.int .i64 0) := (zlah zlas.out 4).trans rfl
           have zlfc := zlai zlas.out 0
           have zlfd := zlai zlas.out 1
           have zlfe := zlai zlas.out 2
           have zlff := zlai zlas.out 3
           have zlfg := zlai zlas.out 4
           go_wp2
           go_meet
           case rel => exact ⟨_, (decide (((rd_T86 l0_1 zlak).f0) > 1)), (by first | rfl | (simp; done) | (simp [*]; done)), H', ⟨by have := HK1.out; first | omega | exact Nat.le_refl _⟩, ⟨by (with_reducible repeat (first | apply Kd.V_alloc | apply Kd.V_drewN | apply Kd.V_drew)); exact Kd.V_mono (Kd.V_far (p := ⟨zlal, 4, none⟩) (Kd.V_far (p := ⟨zlal, 3, none⟩) (Kd.V_far (p := ⟨zlal, 2, none⟩) (Kd.V_far (p := ⟨zlal, 1, none⟩) (Kd.V_far (p := ⟨zlal, 0, none⟩) (Kd.V_mono HO_283000.out (fun k_ hk => (⟨hk, hk.2⟩ : _ ∧ k_ ≠ zlal))) (fun _ hk => hk.2) (.int .i64 ((rd_T86 l0_1 zlak).f0))) (fun _ hk => hk.2) (.string ((rd_T86 l0_1 zlak).f1))) (fun _ hk => hk.2) (.string ((rd_T86 l0_1 zlak).f2))) (fun _ hk => hk.2) (.string ((rd_T86 l0_1 zlak).f3))) (fun _ hk => hk.2) (.int .i64 ((rd_T86 l0_1 zlak).f4))) (fun _ hk => ⟨hk.1.1.1, ⟨hk.1.1.2.1, ⟨hk.1.1.2.2, hk.1.2⟩⟩⟩)⟩, ⟨by (with_reducible repeat (first | apply Kd.V_alloc | apply Kd.V_drewN | apply Kd.V_drew)); exact Kd.V_mono (Kd.V_far (p := ⟨zlal, 4, none⟩) (Kd.V_far (p := ⟨zlal, 3, none⟩) (Kd.V_far (p := ⟨zlal, 2, none⟩) (Kd.V_far (p := ⟨zlal, 1, none⟩) (Kd.V_far (p := ⟨zlal, 0, none⟩) (Kd.V_mono HO_283001.out (fun k_ hk => (⟨hk, hk.2⟩ : _ ∧ k_ ≠ zlal))) (fun _ hk => hk.2) (.int .i64 ((rd_T86 l0_1 zlak).f0))) (fun _ hk => hk.2) (.string ((rd_T86 l0_1 zlak).f1))) (fun _ hk => hk.2) (.string ((rd_T86 l0_1 zlak).f2))) (fun _ hk => hk.2) (.string ((rd_T86 l0_1 zlak).f3))) (fun _ hk => hk.2) (.int .i64 ((rd_T86 l0_1 zlak).f4))) (fun _ hk => ⟨hk.1.1.1, ⟨hk.1.1.2.1, ⟨hk.1.1.2.2, hk.1.2⟩⟩⟩)⟩, ⟨by (with_reducible repeat (first | apply Kd.V_alloc | apply Kd.V_drewN | apply Kd.V_drew)); exact Kd.V_mono (Kd.V_far (p := ⟨zlal, 4, none⟩) (Kd.V_far (p := ⟨zlal, 3, none⟩) (Kd.V_far (p := ⟨zlal, 2, none⟩) (Kd.V_far (p := ⟨zlal, 1, none⟩) (Kd.V_far (p := ⟨zlal, 0, none⟩) (Kd.V_mono HO_283004.out (fun k_ hk => (⟨hk, hk.2⟩ : _ ∧ k_ ≠ zlal))) (fun _ hk => hk.2) (.int .i64 ((rd_T86 l0_1 zlak).f0))) (fun _ hk => hk.2) (.string ((rd_T86 l0_1 zlak).f1))) (fun _ hk => hk.2) (.string ((rd_T86 l0_1 zlak).f2))) (fun _ hk => hk.2) (.string ((rd_T86 l0_1 zlak).f3))) (fun _ hk => hk.2) (.int .i64 ((rd_T86 l0_1 zlak).f4))) (fun _ hk => ⟨hk.1.1.1, ⟨hk.1.1.2.1, ⟨hk.1.1.2.2, hk.1.2⟩⟩⟩)⟩, ⟨by (iterate 5 ((with_reducible repeat (first | refine zlaa ?_ _ | refine zlac ?_ | refine zlab ?_ _)); refine blk_far ?_ zlan.out _)); exact zbk zlam⟩, ⟨by (iterate 5 ((with_reducible repeat (first | refine zlaa ?_ _ | refine zlac ?_ | refine zlab ?_ _)); refine blk_far ?_ zlao.out _)); exact zbk zlat⟩, ⟨by (with_reducible repeat (first | refine zlaa ?_ _ | refine zlac ?_ | refine zlab ?_ _)); refine blk_put (cs := #[.int .i64 ((rd_T86 l0_1 zlak).f0), .string ((rd_T86 l0_1 zlak).f1), .string ((rd_T86 l0_1 zlak).f2), .string ((rd_T86 l0_1 zlak).f3), .int .i64 0]) ?_ 4 _ rfl; (with_reducible repeat (first | refine zlaa ?_ _ | refine zlac ?_ | refine zlab ?_ _)); refine blk_put (cs := #[.int .i64 ((rd_T86 l0_1 zlak).f0), .string ((rd_T86 l0_1 zlak).f1), .string ((rd_T86 l0_1 zlak).f2), .string (⟨#[]⟩ : ByteArray), .int .i64 0]) ?_ 3 _ rfl; (with_reducible repeat (first | refine zlaa ?_ _ | refine zlac ?_ | refine zlab ?_ _)); refine blk_put (cs := #[.int .i64 ((rd_T86 l0_1 zlak).f0), .string ((rd_T86 l0_1 zlak).f1), .string (⟨#[]⟩ : ByteArray), .string (⟨#[]⟩ : ByteArray), .int .i64 0]) ?_ 2 _ rfl; (with_reducible repeat (first | refine zlaa ?_ _ | refine zlac ?_ | refine zlab ?_ _)); refine blk_put (cs := #[.int .i64 ((rd_T86 l0_1 zlak).f0), .string (⟨#[]⟩ : ByteArray), .string (⟨#[]⟩ : ByteArray), .string (⟨#[]⟩ : ByteArray), .int .i64 0]) ?_ 1 _ rfl; (with_reducible repeat (first | refine zlaa ?_ _ | refine zlac ?_ | refine zlab ?_ _)); refine blk_put (cs := #[.int .i64 0, .string (⟨#[]⟩ : ByteArray), .string (⟨#[]⟩ : ByteArray), .string (⟨#[]⟩ : ByteArray), .int .i64 0]) ?_ 0 _ rfl; exact zbk zlas⟩, ⟨by repeat (first | (with_reducible first | exact HB.out | apply zlag | apply zlae | apply zlaf | refine zlad ?_ zlav.out | refine zlad ?_ zlaw.out | refine zlad ?_ zlbd.out) | exact HB.out)⟩⟩
       ·rw [if_neg c23] at H
        have c23b0 : decide (a1 ≤ zlak) = false := decide_eq_false c23
        clear c23
        (first | rw [c23b0] | (simp only [i64_w, i32_w]; rw [c23b0]) | skip)
        have H' := zlaj H
        clear H
        go_wp2
        go_meet
        case rel => exact ⟨_, (false), (by first | rfl | (simp; done) | (simp [*]; done)), H', ⟨by have := HK1.out; first | omega | exact Nat.le_refl _⟩, ⟨by (with_reducible repeat (first | apply Kd.V_alloc | apply Kd.V_drewN | apply Kd.V_drew)); exact Kd.V_mono (Kd.V_far (p := ⟨zlal, 4, none⟩) (Kd.V_far (p := ⟨zlal, 3, none⟩) (Kd.V_far (p := ⟨zlal, 2, none⟩) (Kd.V_far (p := ⟨zlal, 1, none⟩) (Kd.V_far (p := ⟨zlal, 0, none⟩) (Kd.V_mono HO_283000.out (fun k_ hk => (⟨hk, hk.2⟩ : _ ∧ k_ ≠ zlal))) (fun _ hk => hk.2) (.int .i64 ((rd_T86 l0_1 zlak).f0))) (fun _ hk => hk.2) (.string ((rd_T86 l0_1 zlak).f1))) (fun _ hk => hk.2) (.string ((rd_T86 l0_1 zlak).f2))) (fun _ hk => hk.2) (.string ((rd_T86 l0_1 zlak).f3))) (fun _ hk => hk.2) (.int .i64 ((rd_T86 l0_1 zlak).f4))) (fun _ hk => ⟨hk.1.1.1, ⟨hk.1.1.2.1, ⟨hk.1.1.2.2, hk.1.2⟩⟩⟩)⟩, ⟨by (with_reducible repeat (first | apply Kd.V_alloc | apply Kd.V_drewN | apply Kd.V_drew)); exact Kd.V_mono (Kd.V_far (p := ⟨zlal, 4, none⟩) (Kd.V_far (p := ⟨zlal, 3, none⟩) (Kd.V_far (p := ⟨zlal, 2, none⟩) (Kd.V_far (p := ⟨zlal, 1, none⟩) (Kd.V_far (p := ⟨zlal, 0, none⟩) (Kd.V_mono HO_283001.out (fun k_ hk => (⟨hk, hk.2⟩ : _ ∧ k_ ≠ zlal))) (fun _ hk => hk.2) (.int .i64 ((rd_T86 l0_1 zlak).f0))) (fun _ hk => hk.2) (.string ((rd_T86 l0_1 zlak).f1))) (fun _ hk => hk.2) (.string ((rd_T86 l0_1 zlak).f2))) (fun _ hk => hk.2) (.string ((rd_T86 l0_1 zlak).f3))) (fun _ hk => hk.2) (.int .i64 ((rd_T86 l0_1 zlak).f4))) (fun _ hk => ⟨hk.1.1.1, ⟨hk.1.1.2.1, ⟨hk.1.1.2.2, hk.1.2⟩⟩⟩)⟩, ⟨by (with_reducible repeat (first | apply Kd.V_alloc | apply Kd.V_drewN | apply Kd.V_drew)); exact Kd.V_mono (Kd.V_far (p := ⟨zlal, 4, none⟩) (Kd.V_far (p := ⟨zlal, 3, none⟩) (Kd.V_far (p := ⟨zlal, 2, none⟩) (Kd.V_far (p := ⟨zlal, 1, none⟩) (Kd.V_far (p := ⟨zlal, 0, none⟩) (Kd.V_mono HO_283004.out (fun k_ hk => (⟨hk, hk.2⟩ : _ ∧ k_ ≠ zlal))) (fun _ hk => hk.2) (.int .i64 ((rd_T86 l0_1 zlak).f0))) (fun _ hk => hk.2) (.string ((rd_T86 l0_1 zlak).f1))) (fun _ hk => hk.2) (.string ((rd_T86 l0_1 zlak).f2))) (fun _ hk => hk.2) (.string ((rd_T86 l0_1 zlak).f3))) (fun _ hk => hk.2) (.int .i64 ((rd_T86 l0_1 zlak).f4))) (fun _ hk => ⟨hk.1.1.1, ⟨hk.1.1.2.1, ⟨hk.1.1.2.2, hk.1.2⟩⟩⟩)⟩, ⟨by (iterate 5 ((with_reducible repeat (first | refine zlaa ?_ _ | refine zlac ?_ | refine zlab ?_ _)); refine blk_far ?_ zlan.out _)); exact zbk zlam⟩, ⟨by (iterate 5 ((with_reducible repeat (first | refine zlaa ?_ _ | refine zlac ?_ | refine zlab ?_ _)); refine blk_far ?_ zlao.out _)); exact zbk zlat⟩, ⟨by (with_reducible repeat (first | refine zlaa ?_ _ | refine zlac ?_ | refine zlab ?_ _)); refine blk_put (cs := #[.int .i64 ((rd_T86 l0_1 zlak).f0), .string ((rd_T86 l0_1 zlak).f1), .string ((rd_T86 l0_1 zlak).f2), .string ((rd_T86 l0_1 zlak).f3), .int .i64 0]) ?_ 4 _ rfl; (with_reducible repeat (first | refine zlaa ?_ _ | refine zlac ?_ | refine zlab ?_ _)); refine blk_put (cs := #[.int .i64 ((rd_T86 l0_1 zlak).f0), .string ((rd_T86 l0_1 zlak).f1), .string ((rd_T86 l0_1 zlak).f2), .string (⟨#[]⟩ : ByteArray), .int .i64 0]) ?_ 3 _ rfl; (with_reducible repeat (first | refine zlaa ?_ _ | refine zlac ?_ | refine zlab ?_ _)); refine blk_put (cs := #[.int .i64 ((rd_T86 l0_1 zlak).f0), .string ((rd_T86 l0_1 zlak).f1), .string (⟨#[]⟩ : ByteArray), .string (⟨#[]⟩ : ByteArray), .int .i64 0]) ?_ 2 _ rfl; (with_reducible repeat (first | refine zlaa ?_ _ | refine zlac ?_ | refine zlab ?_ _)); refine blk_put (cs := #[.int .i64 ((rd_T86 l0_1 zlak).f0), .string (⟨#[]⟩ : ByteArray), .string (⟨#[]⟩ : ByteArray), .string (⟨#[]⟩ : ByteArray), .int .i64 0]) ?_ 1 _ rfl; (with_reducible repeat (first | refine zlaa ?_ _ | refine zlac ?_ | refine zlab ?_ _)); refine blk_put (cs := #[.int .i64 0, .string (⟨#[]⟩ : ByteArray), .string (⟨#[]⟩ : ByteArray), .string (⟨#[]⟩ : ByteArray), .int .i64 0]) ?_ 0 _ rfl; exact zbk zlas⟩, ⟨by repeat (first | (with_reducible first | exact HB.out | apply zlag | apply zlae | apply zlaf | refine zlad ?_ zlav.out | refine zlad ?_ zlaw.out | refine zlad ?_ zlbd.out) | exact HB.out)⟩⟩
      case rest =>
       clear HC16
       try clear c1
       try clear c2
       try clear p2
       try clear q2
       try clear hx2
       try clear c3
       try clear c4
       try clear p6
       try clear c7
       try clear c12
       try clear c14
       try clear c14b0
       try clear c15
       try clear c15b0
       try clear c17
       try clear c20
       try clear c21
       try clear c23
       try clear c23b0
       try clear c24
       try clear c24b0
       try clear c25
       try clear c25b0
       try clear c26
       try clear c26b0
       try clear c27
       try clear c27b0
       try clear c28
       try clear c28b0
       try clear p28
       try clear q28
       try clear hx28
       try clear c29
       try clear c30
       try clear c32
       try clear c32b0
       try clear c33
       try clear c34
       try clear c36
       try clear c36b0
       try clear c37
       try clear c37b0
       try clear c38
       try clear c38b0
       try clear c39
       try clear c40
       try clear c42
       try clear c42b0
       try clear c43
       try clear c44
       try clear zlbn
       try clear zlbo
       try clear zlbp
       try clear zlbq
       try clear zlbr
       try clear zlbs
       try clear zlcx
       try clear zlcy
       try clear zlcz
       try clear zlda
       try clear zldb
       try clear zldc
       try clear zldj
       try clear zldk
       try clear zldl
       try clear zldm
       try clear zldn
       try clear zldt
       try clear zldu
       try clear zldv
       try clear zldw
       try clear zldx
       try clear zled
       try clear zlee
       try clear zlef
       try clear zleg
       try clear zleh
       try clear zlen
       try clear zleo
       try clear zlep
       try clear zleq
       try clear zler
       try clear zlex
       try clear zley
       try clear zlez
       try clear zlfa
       try clear zlfb
       try clear zlbz
       try clear zlca
       try clear zlcb
       try clear zlcc
       try clear zlcd
       try clear zlce
       try clear zlcl
       try clear zlcm
       try clear zlcn
       try clear zlco
       try clear zlcp
       try clear zlcq
       try clear zlbt
       try clear zlbu
       try clear zlbv
       try clear zlbw
       try clear zlbx
       try clear zlby
       try clear zldd
       try clear zlde
       try clear zldf
       try clear zldg
       try clear zldh
       try clear zldi
       try clear zldo
       try clear zldp
       try clear zldq
       try clear zldr
       try clear zlds
       try clear zldy
       try clear zldz
       try clear zlea
       try clear zleb
       try clear zlec
       try clear zlei
       try clear zlej
       try clear zlek
       try clear zlel
       try clear zlem
       try clear zles
       try clear zlet
       try clear zleu
       try clear zlev
       try clear zlew
       try clear zlfc
       try clear zlfd
       try clear zlfe
       try clear zlff
       try clear zlfg
       try clear zlcf
       try clear zlcg
       try clear zlch
       try clear zlci
       try clear zlcj
       try clear zlck
       try clear zlcr
       try clear zlcs
       try clear zlct
       try clear zlcu
       try clear zlcv
       try clear zlcw
       try clear hx284_0
       try clear hx284_1
       try clear hx284_2
       try clear hx284_3
       try clear hx284_4
       try clear p2
       try clear p284
       try clear p6
       try clear q284
       obtain ⟨kq, zlbi, rfl, HA, HJ15, HO_283000, HO_283001, HO_283004, zlam, zlat, zlas, HB⟩ := hcut
       cases kq with
       | zero => exact absurd HA.out (by simp [stowageref04_Disk_Fail.j1])
       | succ kj15 =>
        have H := HA.out
        clear HA
        simp only [stowageref04_Disk_Fail.j1] at H
        by_cases c46 : zlbi = true
        ·subst c46
         have H1 : (some (zlau, ([] : List (S86)), a0_2, true, l0_4, a0_5)) = some (r1, r2, r3, r4, r5, r6) := by rw [if_pos rfl] at H; exact H
         clear H
         have H := H1
         clear H1
         simp only [Option.some.injEq, Prod.mk.injEq] at H
         obtain ⟨rfl, rfl, rfl, rfl, rfl, rfl⟩ := H
         have hnb47 := zlbe.out
         have hnc47 := zlax.out
         have hnb48 := zlan.out
         have hnc48 := zlbf.out
         have zlfj : wc.cell? ⟨zlap, 0, none⟩ = some (u283000) := (zlah zlam.out 0).trans rfl
         have zlfk : wc.cell? ⟨zlap, 1, none⟩ = some (.slice (some ad284) l0_1.length c0_1) := (zlah zlam.out 1).trans rfl
         have zlfl : wc.cell? ⟨zlap, 2, none⟩ = some (.int .i64 a0_2) := (zlah zlam.out 2).trans rfl
         have zlfm : wc.cell? ⟨zlap, 3, none⟩ = some (.bool false) := (zlah zlam.out 3).trans rfl
         have zlfn : wc.cell? ⟨zlap, 4, none⟩ = some (.slice A0_4 l0_4.length c0_4) := (zlah zlam.out 4).trans rfl
         have zlfo : wc.cell? ⟨zlap, 5, none⟩ = some (.int .i64 a0_5) := (zlah zlam.out 5).trans rfl
         have zlfp := zlai zlam.out 0
         have zlfq := zlai zlam.out 1
         have zlfr := zlai zlam.out 2
         have zlfs := zlai zlam.out 3
         have zlft := zlai zlam.out 4
         have zlfu := zlai zlam.out 5
         obtain ⟨Ao50, co50, eo50⟩ := Kd.V_slice HO_283000.out
         subst eo50
         have hnb51 := zlao.out
         have hnc51 := zlbg.out
         have zlfv : wc.cell? ⟨zlar, 0, none⟩ = some (.slice none 0 0) := (zlah zlat.out 0).trans rfl
         have zlfw : wc.cell? ⟨zlar, 1, none⟩ = some (.slice none 0 0) := (zlah zlat.out 1).trans rfl
         have zlfx : wc.cell? ⟨zlar, 2, none⟩ = some (.int .i64 0) := (zlah zlat.out 2).trans rfl
         have zlfy : wc.cell? ⟨zlar, 3, none⟩ = some (.bool false) := (zlah zlat.out 3).trans rfl
         have zlfz : wc.cell? ⟨zlar, 4, none⟩ = some (.slice none 0 0) := (zlah zlat.out 4).trans rfl
         have zlga : wc.cell? ⟨zlar, 5, none⟩ = some (.int .i64 0) := (zlah zlat.out 5).trans rfl
         have zlgb := zlai zlat.out 0
         have zlgc := zlai zlat.out 1
         have zlgd := zlai zlat.out 2
         have zlge := zlai zlat.out 3
         have zlgf := zlai zlat.out 4
         have zlgg := zlai zlat.out 5
         go_wp2
         refine bodyPost_ret (results_cell_row rfl _ _ zlar 57 #[.slice Ao50 zlau.length co50, .slice none 0 0, .int .i64 a0_2, .bool true, .slice A0_4 l0_4.length c0_4, .int .i64 a0_5] (0, 0) _ rfl (by (with_reducible repeat (first | refine zlaa ?_ _ | refine zlac ?_ | refine zlab ?_ _)); refine blk_put (cs := #[.slice Ao50 zlau.length co50, .slice none 0 0, .int .i64 a0_2, .bool true, .slice A0_4 l0_4.length c0_4, .int .i64 0]) ?_ 5 _ rfl; (with_reducible repeat (first | refine zlaa ?_ _ | refine zlac ?_ | refine zlab ?_ _)); refine blk_put (cs := #[.slice Ao50 zlau.length co50, .slice none 0 0, .int .i64 a0_2, .bool true, .slice none 0 0, .int .i64 0]) ?_ 4 _ rfl; (with_reducible repeat (first | refine zlaa ?_ _ | refine zlac ?_ | refine zlab ?_ _)); refine blk_put (cs := #[.slice Ao50 zlau.length co50, .slice none 0 0, .int .i64 a0_2, .bool false, .slice none 0 0, .int .i64 0]) ?_ 3 _ rfl; (with_reducible repeat (first | refine zlaa ?_ _ | refine zlac ?_ | refine zlab ?_ _)); refine blk_put (cs := #[.slice Ao50 zlau.length co50, .slice none 0 0, .int .i64 0, .bool false, .slice none 0 0, .int .i64 0]) ?_ 2 _ rfl; (with_reducible repeat (first | refine zlaa ?_ _ | refine zlac ?_ | refine zlab ?_ _)); refine blk_put (cs := #[.slice Ao50 zlau.length co50, .slice none 0 0, .int .i64 0, .bool false, .slice none 0 0, .int .i64 0]) ?_ 1 _ rfl; (with_reducible repeat (first | refine zlaa ?_ _ | refine zlac ?_ | refine zlab ?_ _)); refine blk_put (cs := #[.slice none 0 0, .slice none 0 0, .int .i64 0, .bool false, .slice none 0 0, .int .i64 0]) ?_ 0 _ rfl; (iterate 2 ((with_reducible repeat (first | refine zlaa ?_ _ | refine zlac ?_ | refine zlab ?_ _)); refine blk_far ?_ zlax.out _)); exact zbk zlat) Try.underlying57 rfl (by kernel_rfl)) rfl ?_
         exact ⟨_, _, _, by first | rfl | (simp [errW_none, errW_some] <;> rfl) | (simp [*, errW_none, errW_some] <;> rfl), by (with_reducible repeat (first | apply Kd.V_alloc | apply Kd.V_drewN | apply Kd.V_drew)); exact Kd.V_mono (Kd.V_far (p := ⟨zlar, 5, none⟩) (Kd.V_far (p := ⟨zlar, 4, none⟩) (Kd.V_far (p := ⟨zlar, 3, none⟩) (Kd.V_far (p := ⟨zlar, 2, none⟩) (Kd.V_far (p := ⟨zlar, 1, none⟩) (Kd.V_far (p := ⟨zlar, 0, none⟩) (Kd.V_far (p := ⟨zlap, 3, none⟩) (Kd.V_far (p := ⟨zlap, 1, none⟩) (Kd.V_mono (Kd.V_mono HO_283000.out (fun k_ hk => (⟨hk, hk.2.1⟩ : _ ∧ k_ ≠ zlap))) (fun k_ hk => (⟨hk, hk.1.2.2.1⟩ : _ ∧ k_ ≠ zlar))) (fun _ hk => hk.1.2) (.slice none 0 0)) (fun _ hk => hk.1.2) (.bool true)) (fun _ hk => hk.2) (.slice Ao50 zlau.length co50)) (fun _ hk => hk.2) (.slice none 0 0)) (fun _ hk => hk.2) (.int .i64 a0_2)) (fun _ hk => hk.2) (.bool true)) (fun _ hk => hk.2) (.slice A0_4 l0_4.length c0_4)) (fun _ hk => hk.2) (.int .i64 a0_5)) (fun _ hk => hk.1.1.1), Kd.V_nil _ _ _ _ _, by (with_reducible repeat (first | apply Kd.V_alloc | apply Kd.V_drewN | apply Kd.V_drew)); exact Kd.V_mono (Kd.V_far (p := ⟨zlar, 5, none⟩) (Kd.V_far (p := ⟨zlar, 4, none⟩) (Kd.V_far (p := ⟨zlar, 3, none⟩) (Kd.V_far (p := ⟨zlar, 2, none⟩) (Kd.V_far (p := ⟨zlar, 1, none⟩) (Kd.V_far (p := ⟨zlar, 0, none⟩) (Kd.V_far (p := ⟨zlap, 3, none⟩) (Kd.V_far (p := ⟨zlap, 1, none⟩) (Kd.V_mono (Kd.V_mono HO_283004.out (fun k_ hk => (⟨hk, hk.2.1⟩ : _ ∧ k_ ≠ zlap))) (fun k_ hk => (⟨hk, hk.1.2.2.1⟩ : _ ∧ k_ ≠ zlar))) (fun _ hk => hk.1.2) (.slice none 0 0)) (fun _ hk => hk.1.2) (.bool true)) (fun _ hk => hk.2) (.slice Ao50 zlau.length co50)) (fun _ hk => hk.2) (.slice none 0 0)) (fun _ hk => hk.2) (.int .i64 a0_2)) (fun _ hk => hk.2) (.bool true)) (fun _ hk => hk.2) (.slice A0_4 l0_4.length c0_4)) (fun _ hk => hk.2) (.int .i64 a0_5)) (fun _ hk => hk.1.1.1), by repeat (first | (with_reducible first | exact HB.out | apply zlag | apply zlae | apply zlaf | refine zlad ?_ zlav.out | refine zlad ?_ zlaw.out | refine zlad ?_ zlbd.out) | exact HB.out)⟩
        ·replace c46 := Bool.eq_false_iff.mpr c46
         subst c46
         have H1 : (if zlak ≥ a1 then (if 0 ≤ (mn a2 (((rd_T86 l0_1 zlak).f3).size : Int)) then (if (mn a2 (((rd_T86 l0_1 zlak).f3).size : Int)) ≤ (((rd_T86 l0_1 zlak).f3).size : Int) then ((stowageref04_Do.f kj15 zlau ((rd_T86 l0_1 zlak).f0) ((rd_T86 l0_1 zlak).f1) ((rd_T86 l0_1 zlak).f2) (((rd_T86 l0_1 zlak).f3).extract 0 ((mn a2 (((rd_T86 l0_1 zlak).f3).size : Int)) : Int).toNat) ((rd_T86 l0_1 zlak).f4)).bind fun t286 => (stowageref04_Disk_Fail.l0 kj15 a1 a2 (wrap64 (zlak + 1)) t286 l0_1 a0_2 false l0_4 a0_5)) else (none)) else (none)) else ((stowageref04_Do.f kj15 zlau ((rd_T86 l0_1 zlak).f0) ((rd_T86 l0_1 zlak).f1) ((rd_T86 l0_1 zlak).f2) ((rd_T86 l0_1 zlak).f3) ((rd_T86 l0_1 zlak).f4)).bind fun t289 => (stowageref04_Disk_Fail.l0 kj15 a1 a2 (wrap64 (zlak + 1)) t289 l0_1 a0_2 false l0_4 a0_5))) = some (r1, r2, r3, r4, r5, r6) := by rw [if_neg (show ¬ (false = true) by decide)] at H; exact H
         clear H
         have H := H1
         clear H1
         by_cases c53 : zlak ≥ a1
         ·rw [if_pos c53] at H
          have c53b0 : decide (a1 ≤ zlak) = true := decide_eq_true c53
          clear c53
          obtain ⟨ji54, hji54⟩ : ∃ j_ : Int, (mn a2 (((rd_T86 l0_1 zlak).f3).size : Int)) = j_ := ⟨_, rfl⟩
          replace H : (if 0 ≤ (ji54) then (if (ji54) ≤ (((rd_T86 l0_1 zlak).f3).size : Int) then ((stowageref04_Do.f kj15 zlau ((rd_T86 l0_1 zlak).f0) ((rd_T86 l0_1 zlak).f1) ((rd_T86 l0_1 zlak).f2) (((rd_T86 l0_1 zlak).f3).extract 0 ((ji54) : Int).toNat) ((rd_T86 l0_1 zlak).f4)).bind fun t286 => (stowageref04_Disk_Fail.l0 kj15 a1 a2 (wrap64 (zlak + 1)) t286 l0_1 a0_2 false l0_4 a0_5)) else (none)) else (none)) = some (r1, r2, r3, r4, r5, r6) := by first | (rw [hji54] at H; exact H) | (simp only [hji54] at H ⊢; exact H)
          have hji54_ : (if (((rd_T86 l0_1 zlak).f3).size : Int) < a2 then (((rd_T86 l0_1 zlak).f3).size : Int) else a2) = ji54 := hji54
          by_cases c55 : 0 ≤ (ji54)
          ·rw [if_pos c55] at H
           have c55b0 := eq_true c55
           have c55b1 : decide (0 ≤ (ji54)) = true := decide_eq_true c55
           clear c55
           by_cases c56 : (ji54) ≤ (((rd_T86 l0_1 zlak).f3).size : Int)
           ·rw [if_pos c56] at H
            have c56b0 := eq_true c56
            have c56b1 : decide ((ji54) ≤ (((rd_T86 l0_1 zlak).f3).size : Int)) = true := decide_eq_true c56
            clear c56
            replace H := Option.bind_eq_some_iff.mp H
            obtain ⟨t286, A570, H⟩ := H
            replace H : (stowageref04_Disk_Fail.l0 kj15 a1 a2 (wrap64 (zlak + 1)) t286 l0_1 a0_2 false l0_4 a0_5) = some (r1, r2, r3, r4, r5, r6) := H
            have A57 := zlaj A570
            clear A570
            have H' := zlaj H
            clear H
            have hnb58 := zlbf.out
            have hnc58 := zlan.out
            have hnb59 := zlbg.out
            have hnc59 := zlao.out
            have zlgh : wc.cell? ⟨zlal, 0, none⟩ = some (.int .i64 ((rd_T86 l0_1 zlak).f0)) := (zlah zlas.out 0).trans rfl
            have zlgi : wc.cell? ⟨zlal, 1, none⟩ = some (.string ((rd_T86 l0_1 zlak).f1)) := (zlah zlas.out 1).trans rfl
            have zlgj : wc.cell? ⟨zlal, 2, none⟩ = some (.string ((rd_T86 l0_1 zlak).f2)) := (zlah zlas.out 2).trans rfl
            have zlgk : wc.cell? ⟨zlal, 3, none⟩ = some (.string ((rd_T86 l0_1 zlak).f3)) := (zlah zlas.out 3).trans rfl
            have zlgl : wc.cell? ⟨zlal, 4, none⟩ = some (.int .i64 ((rd_T86 l0_1 zlak).f4)) := (zlah zlas.out 4).trans rfl
            have zlgm := zlai zlas.out 0
            have zlgn := zlai zlas.out 1
            have zlgo := zlai zlas.out 2
            have zlgp := zlai zlas.out 3
            have zlgq := zlai zlas.out 4
            have hnb61 := zlbe.out
            have hnc61 := zlax.out
            have zlgr : wc.cell? ⟨zlap, 0, none⟩ = some (u283000) := (zlah zlam.out 0).trans rfl
            have zlgs : wc.cell? ⟨zlap, 1, none⟩ = some (.slice (some ad284) l0_1.length c0_1) := (zlah zlam.out 1).trans rfl
            have zlgt : wc.cell? ⟨zlap, 2, none⟩ = some (.int .i64 a0_2) := (zlah zlam.out 2).trans rfl
            have zlgu : wc.cell? ⟨zlap, 3, none⟩ = some (.bool false) := (zlah zlam.out 3).trans rfl
            have zlgv : wc.cell? ⟨zlap, 4, none⟩ = some (.slice A0_4 l0_4.length c0_4) := (zlah zlam.out 4).trans rfl
            have zlgw : wc.cell? ⟨zlap, 5, none⟩ = some (.int .i64 a0_5) := (zlah zlam.out 5).trans rfl
            have zlgx := zlai zlam.out 0
            have zlgy := zlai zlam.out 1
            have zlgz := zlai zlam.out 2
            have zlha := zlai zlam.out 3
            have zlhb := zlai zlam.out 4
            have zlhc := zlai zlam.out 5
            obtain ⟨Ao63, co63, eo63⟩ := Kd.V_slice HO_283000.out
            subst eo63
            go_wp2_with (fail)
            (with_reducible refine (stowageref04_Do.calls kj15 _ _ zlau ((rd_T86 l0_1 zlak).f0) ((rd_T86 l0_1 zlak).f1) ((rd_T86 l0_1 zlak).f2) (((rd_T86 l0_1 zlak).f3).extract 0 ((ji54) : Int).toNat) ((rd_T86 l0_1 zlak).f4) t286 _ ?side1 ?side2 A57.out).mono ?_)
            (case side1 => refine (Kd.V_reads' (e := 48) (base := w.heap.size) (ok := fun k_ => (((P0_0_ k_ ∨ P0_1_ k_ ∨ P0_4_ k_) ∨ w.heap.size ≤ k_) ∧ (k_ ≠ zlap ∧ (k_ ≠ zlar ∧ k_ ≠ zlal)))) (n := zlau.length) (c := co63) ?_).2.2; exact (by (with_reducible repeat (first | apply Kd.V_alloc | apply Kd.V_drewN | apply Kd.V_drew)); exact (Kd.V_mono (Kd.V_far (p := ⟨zlal, 3, none⟩) (Kd.V_mono HO_283000.out (fun k_ hk => (⟨hk, hk.2.2.2⟩ : _ ∧ k_ ≠ zlal))) (fun _ hk => hk.2) (.string (((rd_T86 l0_1 zlak).f3).extract 0 ((ji54) : Int).toNat))) (fun _ h_ => h_.1))))
            (case side2 => exact (Kd.V_reads' HO_283000.out).2.1)
            rintro e w64 ⟨v287, rfl, ho0, hb⟩
            have n0_ := zlaj (Kd.V_elder' (by (with_reducible repeat (first | apply Kd.V_alloc | apply Kd.V_drewN | apply Kd.V_drew)); exact (Kd.V_mono (Kd.V_far (p := ⟨zlal, 3, none⟩) (Kd.V_mono HO_283000.out (fun k_ hk => (⟨hk, hk.2.2.2⟩ : _ ∧ k_ ≠ zlal))) (fun _ hk => hk.2) (.string (((rd_T86 l0_1 zlak).f3).extract 0 ((ji54) : Int).toNat))) (fun _ h_ => h_.1))) (Kd.R_base ho0) hb)
            have n1_ := zlaj (Kd.V_elder' (by (with_reducible repeat (first | apply Kd.V_alloc | apply Kd.V_drewN | apply Kd.V_drew)); exact (Kd.V_mono (Kd.V_far (p := ⟨zlal, 3, none⟩) (Kd.V_mono HO_283001.out (fun k_ hk => (⟨hk, hk.2.2.2⟩ : _ ∧ k_ ≠ zlal))) (fun _ hk => hk.2) (.string (((rd_T86 l0_1 zlak).f3).extract 0 ((ji54) : Int).toNat))) (fun _ h_ => h_.1))) (Kd.R_base ho0) hb)
            have n2_ := zlaj (Kd.V_elder' (by (with_reducible repeat (first | apply Kd.V_alloc | apply Kd.V_drewN | apply Kd.V_drew)); exact (Kd.V_mono (Kd.V_far (p := ⟨zlal, 3, none⟩) (Kd.V_mono HO_283004.out (fun k_ hk => (⟨hk, hk.2.2.2⟩ : _ ∧ k_ ≠ zlal))) (fun _ hk => hk.2) (.string (((rd_T86 l0_1 zlak).f3).extract 0 ((ji54) : Int).toNat))) (fun _ h_ => h_.1))) (Kd.R_base ho0) hb)
            have n3_ := zlaj (Kd.R_lower (Kd.R_newM (M := fun k_ => (w.heap.size ≤ k_)) ho0 (below_size (by repeat (first | (with_reducible first | exact HB.out | apply zlag | apply zlae | apply zlaf | refine zlad ?_ zlav.out | refine zlad ?_ zlaw.out | refine zlad ?_ zlbd.out) | exact HB.out))) (fun k_ h_ => h_)) (below_size (by repeat (first | (with_reducible first | exact HB.out | apply zlag | apply zlae | apply zlaf | refine zlad ?_ zlav.out | refine zlad ?_ zlaw.out | refine zlad ?_ zlbd.out) | exact HB.out))))
            have n4_ := zlaj (blk_below (g := zlap) (o := .cells #[.slice Ao63 zlau.length co63, .slice (some ad284) l0_1.length c0_1, .int .i64 a0_2, .bool false, .slice A0_4 l0_4.length c0_4, .int .i64 a0_5] 57 (0, 0)) (by (with_reducible repeat (first | refine zlaa ?_ _ | refine zlac ?_ | refine zlab ?_ _)); refine blk_far ?_ zlan.out _; exact zbk zlam) hb)
            have n5_ := zlaj (blk_below (g := zlar) (o := .cells #[.slice none 0 0, .slice none 0 0, .int .i64 0, .bool false, .slice none 0 0, .int .i64 0] 57 (0, 0)) (by (with_reducible repeat (first | refine zlaa ?_ _ | refine zlac ?_ | refine zlab ?_ _)); refine blk_far ?_ zlao.out _; exact zbk zlat) hb)
            have n6_ := zlaj (blk_below (g := zlal) (o := .cells #[.int .i64 ((rd_T86 l0_1 zlak).f0), .string ((rd_T86 l0_1 zlak).f1), .string ((rd_T86 l0_1 zlak).f2), .string (((rd_T86 l0_1 zlak).f3).extract 0 ((ji54) : Int).toNat), .int .i64 ((rd_T86 l0_1 zlak).f4)] 86 (0, 0)) (by (with_reducible repeat (first | refine zlaa ?_ _ | refine zlac ?_ | refine zlab ?_ _)); refine blk_put (cs := #[.int .i64 ((rd_T86 l0_1 zlak).f0), .string ((rd_T86 l0_1 zlak).f1), .string ((rd_T86 l0_1 zlak).f2), .string ((rd_T86 l0_1 zlak).f3), .int .i64 ((rd_T86 l0_1 zlak).f4)]) ?_ 3 _ rfl; exact zbk zlas) hb)
            have n7_ := zlaj (below_step (by repeat (first | (with_reducible first | exact HB.out | apply zlag | apply zlae | apply zlaf | refine zlad ?_ zlav.out | refine zlad ?_ zlaw.out | refine zlad ?_ zlbd.out) | exact HB.out)) hb)
            clear HO_283000
            clear HO_283001
            clear HO_283004
            clear zlam
            clear zlat
            clear zlas
            clear HB
            have HO_283000 := n0_
            have HO_283001 := n1_
            have HO_283004 := n2_
            have HO288 := n3_
            have zlam := n4_
            have zlat := n5_
            have zlas := n6_
            have HB := n7_
            clear n0_ n1_ n2_ n3_ n4_ n5_ n6_ n7_
            (try clear hb)
            (try clear hb2)
            (try clear hk)
            (try clear hi)
            (try clear ho0)
            obtain ⟨Ao65, co65, eo65⟩ := Kd.R_slice HO288.out
            subst eo65
            have zlhd : w64.cell? ⟨zlap, 0, none⟩ = some (.slice Ao63 zlau.length co63) := (zlah zlam.out 0).trans rfl
            have zlhe : w64.cell? ⟨zlap, 1, none⟩ = some (.slice (some ad284) l0_1.length c0_1) := (zlah zlam.out 1).trans rfl
            have zlhf : w64.cell? ⟨zlap, 2, none⟩ = some (.int .i64 a0_2) := (zlah zlam.out 2).trans rfl
            have zlhg : w64.cell? ⟨zlap, 3, none⟩ = some (.bool false) := (zlah zlam.out 3).trans rfl
            have zlhh : w64.cell? ⟨zlap, 4, none⟩ = some (.slice A0_4 l0_4.length c0_4) := (zlah zlam.out 4).trans rfl
            have zlhi : w64.cell? ⟨zlap, 5, none⟩ = some (.int .i64 a0_5) := (zlah zlam.out 5).trans rfl
            have zlhj := zlai zlam.out 0
            have zlhk := zlai zlam.out 1
            have zlhl := zlai zlam.out 2
            have zlhm := zlai zlam.out 3
            have zlhn := zlai zlam.out 4
            have zlho := zlai zlam.out 5
            go_wp2
            go_roundg kj15
            case measure => have := HK1.out; have := HJ15.out; omega
            case rel => exact ⟨(wrap64 (zlak + 1)), (t286), (.slice Ao65 t286.length co65), (by first | rfl | (simp; done) | (simp [*]; done)), H', ⟨by have := HK1.out; have := HJ15.out; omega⟩, ⟨Kd.V_mono (Kd.R_V (by (with_reducible repeat (first | apply Kd.R_alloc | apply Kd.R_drewN | apply Kd.R_drew)); exact Kd.R_mono (ok' := fun k_ => w.heap.size ≤ k_ ∧ k_ ≠ zlap ∧ k_ ≠ zlar) (Kd.R_far (p := ⟨zlap, 0, none⟩) (Kd.R_types (Kd.R_types (Kd.R_types HO288.out zlam.out (by decide)) zlat.out (by decide)) zlam.out (by decide)) (fun _ hk => hk.2) (.slice Ao65 t286.length co65)) (fun _ hk => by first | exact ⟨hk.1.1.1.1, ⟨hk.1.1.2, hk.1.2⟩⟩ | exact ⟨hk.1.1.1.1.1, ⟨hk.1.1.2, hk.1.2⟩⟩))) (fun k_ hk => by first | exact ⟨(.inr (hk.1)), hk.2⟩ | exact (.inr (hk)))⟩, ⟨by (with_reducible repeat (first | apply Kd.V_alloc | apply Kd.V_drewN | apply Kd.V_drew)); exact Kd.V_mono (Kd.V_far (p := ⟨zlap, 0, none⟩) (Kd.V_mono HO_283001.out (fun k_ hk => (⟨hk, hk.1.2.1⟩ : _ ∧ k_ ≠ zlap))) (fun _ hk => hk.2) (.slice Ao65 t286.length co65)) (fun _ hk => ⟨hk.1.1.1, ⟨hk.1.1.2.1, hk.1.1.2.2.1⟩⟩)⟩, ⟨by (with_reducible repeat (first | apply Kd.V_alloc | apply Kd.V_drewN | apply Kd.V_drew)); exact Kd.V_mono (Kd.V_far (p := ⟨zlap, 0, none⟩) (Kd.V_mono HO_283004.out (fun k_ hk => (⟨hk, hk.1.2.1⟩ : _ ∧ k_ ≠ zlap))) (fun _ hk => hk.2) (.slice Ao65 t286.length co65)) (fun _ hk => ⟨hk.1.1.1, ⟨hk.1.1.2.1, hk.1.1.2.2.1⟩⟩)⟩, ⟨by (with_reducible repeat (first | refine zlaa ?_ _ | refine zlac ?_ | refine zlab ?_ _)); refine blk_put (cs := #[.slice Ao63 zlau.length co63, .slice (some ad284) l0_1.length c0_1, .int .i64 a0_2, .bool false, .slice A0_4 l0_4.length c0_4, .int .i64 a0_5]) ?_ 0 _ rfl; exact zbk zlam⟩, ⟨by (with_reducible repeat (first | refine zlaa ?_ _ | refine zlac ?_ | refine zlab ?_ _)); refine blk_far ?_ zlax.out _; exact zbk zlat⟩, ⟨by repeat (first | (with_reducible first | exact HB.out | apply zlag | apply zlae | apply zlaf | refine zlad ?_ zlav.out | refine zlad ?_ zlaw.out | refine zlad ?_ zlbd.out) | exact HB.out)⟩⟩
           ·rw [if_neg c56] at H
            exact absurd H (by simp)
          ·rw [if_neg c55] at H
           exact absurd H (by simp)
         ·rw [if_neg c53] at H
          have c53b0 : decide (a1 ≤ zlak) = false := decide_eq_false c53
          clear c53
          replace H := Option.bind_eq_some_iff.mp H
          obtain ⟨t289, A670, H⟩ := H
          replace H : (stowageref04_Disk_Fail.l0 kj15 a1 a2 (wrap64 (zlak + 1)) t289 l0_1 a0_2 false l0_4 a0_5) = some (r1, r2, r3, r4, r5, r6) := H
          have A67 := zlaj A670
          clear A670
          have H' := zlaj H
          clear H
          have hnb68 := zlbe.out
          have hnc68 := zlax.out
          have hnb69 := zlan.out
          have hnc69 := zlbf.out
          have zlhp : wc.cell? ⟨zlap, 0, none⟩ = some (u283000) := (zlah zlam.out 0).trans rfl
          have zlhq : wc.cell? ⟨zlap, 1, none⟩ = some (.slice (some ad284) l0_1.length c0_1) := (zlah zlam.out 1).trans rfl
          have zlhr : wc.cell? ⟨zlap, 2, none⟩ = some (.int .i64 a0_2) := (zlah zlam.out 2).trans rfl
          have zlhs : wc.cell? ⟨zlap, 3, none⟩ = some (.bool false) := (zlah zlam.out 3).trans rfl
          have zlht : wc.cell? ⟨zlap, 4, none⟩ = some (.slice A0_4 l0_4.length c0_4) := (zlah zlam.out 4).trans rfl
          have zlhu : wc.cell? ⟨zlap, 5, none⟩ = some (.int .i64 a0_5) := (zlah zlam.out 5).trans rfl
          have zlhv := zlai zlam.out 0
          have zlhw := zlai zlam.out 1
          have zlhx := zlai zlam.out 2
          have zlhy := zlai zlam.out 3
          have zlhz := zlai zlam.out 4
          have zlia := zlai zlam.out 5
          have hnb71 := zlbg.out
          have hnc71 := zlao.out
          have zlib : wc.cell? ⟨zlal, 0, none⟩ = some (.int .i64 ((rd_T86 l0_1 zlak).f0)) := (zlah zlas.out 0).trans rfl
          have zlic : wc.cell? ⟨zlal, 1, none⟩ = some (.string ((rd_T86 l0_1 zlak).f1)) := (zlah zlas.out 1).trans rfl
          have zlid : wc.cell? ⟨zlal, 2, none⟩ = some (.string ((rd_T86 l0_1 zlak).f2)) := (zlah zlas.out 2).trans rfl
          have zlie : wc.cell? ⟨zlal, 3, none⟩ = some (.string ((rd_T86 l0_1 zlak).f3)) := (zlah zlas.out 3).trans rfl
          have zlif : wc.cell? ⟨zlal, 4, none⟩ = some (.int .i64 ((rd_T86 l0_1 zlak).f4)) := (zlah zlas.out 4).trans rfl
          have zlig := zlai zlas.out 0
          have zlih := zlai zlas.out 1
          have zlii := zlai zlas.out 2
          have zlij := zlai zlas.out 3
          have zlik := zlai zlas.out 4
          obtain ⟨Ao73, co73, eo73⟩ := Kd.V_slice HO_283000.out
          subst eo73
          go_wp2_with (first | ((with_reducible refine gate_callee (f := 58) rfl ?_); refine goesL_ (some 68) rfl rfl Try.func58 (by kernel_rfl) rfl #[.slice Ao73 zlau.length co73, .agg #[.int .i64 ((rd_T86 l0_1 zlak).f0), .string ((rd_T86 l0_1 zlak).f1), .string ((rd_T86 l0_1 zlak).f2), .string ((rd_T86 l0_1 zlak).f3), .int .i64 ((rd_T86 l0_1 zlak).f4)]] rfl (by (try simp only [List.map_toArray, List.map_cons, List.map_nil]); first | done | rfl) ?_; (with_reducible refine (stowageref04_Do.calls kj15 _ _ zlau ((rd_T86 l0_1 zlak).f0) ((rd_T86 l0_1 zlak).f1) ((rd_T86 l0_1 zlak).f2) ((rd_T86 l0_1 zlak).f3) ((rd_T86 l0_1 zlak).f4) t289 _ ?side1 ?side2 A67.out).mono ?_); (case side1 => repeat (first | exact (Kd.V_reads' HO_283000.out).2.2 | (with_reducible refine Kd.C_alloc ?_ _) | (with_reducible refine Kd.C_drewN ?_ _) | (with_reducible refine Kd.C_drew ?_))); (case side2 => exact (Kd.V_reads' HO_283000.out).2.1); rintro e w74 ⟨v290, rfl, ho0, hb⟩; refine ⟨_, rfl, ?_⟩; have n0_ := zlaj (Kd.V_elder' (zvk HO_283000) (Kd.R_base ho0) hb); have n1_ := zlaj (Kd.V_elder' (zvk HO_283001) (Kd.R_base ho0) hb); have n2_ := zlaj (Kd.V_elder' (zvk HO_283004) (Kd.R_base ho0) hb); have n3_ := zlaj (Kd.R_lower (Kd.R_newM (M := fun k_ => (w.heap.size ≤ k_)) ho0 (below_size (by repeat (first | (with_reducible first | exact HB.out | apply zlag | apply zlae | apply zlaf | refine zlad ?_ zlav.out | refine zlad ?_ zlaw.out | refine zlad ?_ zlbd.out) | exact HB.out))) (fun k_ h_ => h_)) (below_size (by repeat (first | (with_reducible first | exact HB.out | apply zlag | apply zlae | apply zlaf | refine zlad ?_ zlav.out | refine zlad ?_ zlaw.out | refine zlad ?_ zlbd.out) | exact HB.out)))); have n4_ := zlaj (blk_below (g := zlap) (o := .cells #[.slice Ao73 zlau.length co73, .slice (some ad284) l0_1.length c0_1, .int .i64 a0_2, .bool false, .slice A0_4 l0_4.length c0_4, .int .i64 a0_5] 57 (0, 0)) (zbk zlam) hb); have n5_ := zlaj (blk_below (g := zlar) (o := .cells #[.slice none 0 0, .slice none 0 0, .int .i64 0, .bool false, .slice none 0 0, .int .i64 0] 57 (0, 0)) (zbk zlat) hb); have n6_ := zlaj (blk_below (g := zlal) (o := .cells #[.int .i64 ((rd_T86 l0_1 zlak).f0), .string ((rd_T86 l0_1 zlak).f1), .string ((rd_T86 l0_1 zlak).f2), .string ((rd_T86 l0_1 zlak).f3), .int .i64 ((rd_T86 l0_1 zlak).f4)] 86 (0, 0)) (zbk zlas) hb); have n7_ := zlaj (below_step (by repeat (first | (with_reducible first | exact HB.out | apply zlag | apply zlae | apply zlaf | refine zlad ?_ zlav.out | refine zlad ?_ zlaw.out | refine zlad ?_ zlbd.out) | exact HB.out)) hb); clear HO_283000; clear HO_283001; clear HO_283004; clear zlam; clear zlat; clear zlas; clear HB; have HO_283000 := n0_; have HO_283001 := n1_; have HO_283004 := n2_; have HO291 := n3_; have zlam := n4_; have zlat := n5_; have zlas := n6_; have HB := n7_; clear n0_ n1_ n2_ n3_ n4_ n5_ n6_ n7_; (try clear hb); (try clear hk); (try clear hi); (try clear ho0); obtain ⟨Ao75, co75, eo75⟩ := Kd.R_slice HO291.out; subst eo75; have zlil : w74.cell? ⟨zlap, 0, none⟩ = some (.slice Ao73 zlau.length co73) := (zlah zlam.out 0).trans rfl; have zlim : w74.cell? ⟨zlap, 1, none⟩ = some (.slice (some ad284) l0_1.length c0_1) := (zlah zlam.out 1).trans rfl; have zlin : w74.cell? ⟨zlap, 2, none⟩ = some (.int .i64 a0_2) := (zlah zlam.out 2).trans rfl; have zlio : w74.cell? ⟨zlap, 3, none⟩ = some (.bool false) := (zlah zlam.out 3).trans rfl; have zlip : w74.cell? ⟨zlap, 4, none⟩ = some (.slice A0_4 l0_4.length c0_4) := (zlah zlam.out 4).trans rfl; have zliq : w74.cell? ⟨zlap, 5, none⟩ = some (.int .i64 a0_5) := (zlah zlam.out 5).trans rfl; have zlir := zlai zlam.out 0; have zlis := zlai zlam.out 1; have zlit := zlai zlam.out 2; have zliu := zlai zlam.out 3; have zliv := zlai zlam.out 4; have zliw := zlai zlam.out 5))
          go_roundg kj15
          case measure => have := HK1.out; have := HJ15.out; omega
          case rel => exact ⟨(wrap64 (zlak + 1)), (t289), (.slice Ao75 t289.length co75), (by first | rfl | (simp; done) | (simp [*]; done)), H', ⟨by have := HK1.out; have := HJ15.out; omega⟩, ⟨Kd.V_mono (Kd.R_V (by (with_reducible repeat (first | apply Kd.R_alloc | apply Kd.R_drewN | apply Kd.R_drew)); exact Kd.R_mono (ok' := fun k_ => w.heap.size ≤ k_ ∧ k_ ≠ zlap ∧ k_ ≠ zlar) (Kd.R_far (p := ⟨zlap, 0, none⟩) (Kd.R_types (Kd.R_types (Kd.R_types HO291.out zlam.out (by decide)) zlat.out (by decide)) zlam.out (by decide)) (fun _ hk => hk.2) (.slice Ao75 t289.length co75)) (fun _ hk => by first | exact ⟨hk.1.1.1.1, ⟨hk.1.1.2, hk.1.2⟩⟩ | exact ⟨hk.1.1.1.1.1, ⟨hk.1.1.2, hk.1.2⟩⟩))) (fun k_ hk => by first | exact ⟨(.inr (hk.1)), hk.2⟩ | exact (.inr (hk)))⟩, ⟨by (with_reducible repeat (first | apply Kd.V_alloc | apply Kd.V_drewN | apply Kd.V_drew)); exact Kd.V_mono (Kd.V_far (p := ⟨zlap, 0, none⟩) (Kd.V_mono HO_283001.out (fun k_ hk => (⟨hk, hk.1.2.1⟩ : _ ∧ k_ ≠ zlap))) (fun _ hk => hk.2) (.slice Ao75 t289.length co75)) (fun _ hk => ⟨hk.1.1.1, ⟨hk.1.1.2.1, hk.1.1.2.2.1⟩⟩)⟩, ⟨by (with_reducible repeat (first | apply Kd.V_alloc | apply Kd.V_drewN | apply Kd.V_drew)); exact Kd.V_mono (Kd.V_far (p := ⟨zlap, 0, none⟩) (Kd.V_mono HO_283004.out (fun k_ hk => (⟨hk, hk.1.2.1⟩ : _ ∧ k_ ≠ zlap))) (fun _ hk => hk.2) (.slice Ao75 t289.length co75)) (fun _ hk => ⟨hk.1.1.1, ⟨hk.1.1.2.1, hk.1.1.2.2.1⟩⟩)⟩, ⟨by (with_reducible repeat (first | refine zlaa ?_ _ | refine zlac ?_ | refine zlab ?_ _)); refine blk_put (cs := #[.slice Ao73 zlau.length co73, .slice (some ad284) l0_1.length c0_1, .int .i64 a0_2, .bool false, .slice A0_4 l0_4.length c0_4, .int .i64 a0_5]) ?_ 0 _ rfl; exact zbk zlam⟩, ⟨by (with_reducible repeat (first | refine zlaa ?_ _ | refine zlac ?_ | refine zlab ?_ _)); refine blk_far ?_ zlax.out _; exact zbk zlat⟩, ⟨by repeat (first | (with_reducible first | exact HB.out | apply zlag | apply zlae | apply zlaf | refine zlad ?_ zlav.out | refine zlad ?_ zlaw.out | refine zlad ?_ zlbd.out) | exact HB.out)⟩⟩
     ·rw [if_neg c15] at H
      exact absurd H (by simp)
    ·rw [if_neg c14] at H
     have c14b0 : decide (zlak < (l0_1.length : Int)) = false := decide_eq_false c14
     clear c14
     simp only [Option.some.injEq, Prod.mk.injEq] at H
     obtain ⟨rfl, rfl, rfl, rfl, rfl, rfl⟩ := H
     have hnb77 := zlbe.out
     have hnc77 := zlax.out
     have zlix : wr.cell? ⟨zlap, 0, none⟩ = some (u283000) := (zlah zlam.out 0).trans rfl
     have zliy : wr.cell? ⟨zlap, 1, none⟩ = some (.slice A0_1 l0_1.length c0_1) := (zlah zlam.out 1).trans rfl
     have zliz : wr.cell? ⟨zlap, 2, none⟩ = some (.int .i64 a0_2) := (zlah zlam.out 2).trans rfl
     have zlja : wr.cell? ⟨zlap, 3, none⟩ = some (.bool false) := (zlah zlam.out 3).trans rfl
     have zljb : wr.cell? ⟨zlap, 4, none⟩ = some (.slice A0_4 l0_4.length c0_4) := (zlah zlam.out 4).trans rfl
     have zljc : wr.cell? ⟨zlap, 5, none⟩ = some (.int .i64 a0_5) := (zlah zlam.out 5).trans rfl
     have zljd := zlai zlam.out 0
     have zlje := zlai zlam.out 1
     have zljf := zlai zlam.out 2
     have zljg := zlai zlam.out 3
     have zljh := zlai zlam.out 4
     have zlji := zlai zlam.out 5
     obtain ⟨Ao79, co79, eo79⟩ := Kd.V_slice HO_283000.out
     subst eo79
     have zljj : wr.cell? ⟨zlar, 0, none⟩ = some (.slice none 0 0) := (zlah zlat.out 0).trans rfl
     have zljk : wr.cell? ⟨zlar, 1, none⟩ = some (.slice none 0 0) := (zlah zlat.out 1).trans rfl
     have zljl : wr.cell? ⟨zlar, 2, none⟩ = some (.int .i64 0) := (zlah zlat.out 2).trans rfl
     have zljm : wr.cell? ⟨zlar, 3, none⟩ = some (.bool false) := (zlah zlat.out 3).trans rfl
     have zljn : wr.cell? ⟨zlar, 4, none⟩ = some (.slice none 0 0) := (zlah zlat.out 4).trans rfl
     have zljo : wr.cell? ⟨zlar, 5, none⟩ = some (.int .i64 0) := (zlah zlat.out 5).trans rfl
     have zljp := zlai zlat.out 0
     have zljq := zlai zlat.out 1
     have zljr := zlai zlat.out 2
     have zljs := zlai zlat.out 3
     have zljt := zlai zlat.out 4
     have zlju := zlai zlat.out 5
     go_wp2
     refine bodyPost_ret (results_cell_row rfl _ _ zlar 57 #[.slice Ao79 zlau.length co79, .slice none 0 0, .int .i64 a0_2, .bool true, .slice A0_4 l0_4.length c0_4, .int .i64 a0_5] (0, 0) _ rfl (by (with_reducible repeat (first | refine zlaa ?_ _ | refine zlac ?_ | refine zlab ?_ _)); refine blk_put (cs := #[.slice Ao79 zlau.length co79, .slice none 0 0, .int .i64 a0_2, .bool true, .slice A0_4 l0_4.length c0_4, .int .i64 0]) ?_ 5 _ rfl; (with_reducible repeat (first | refine zlaa ?_ _ | refine zlac ?_ | refine zlab ?_ _)); refine blk_put (cs := #[.slice Ao79 zlau.length co79, .slice none 0 0, .int .i64 a0_2, .bool true, .slice none 0 0, .int .i64 0]) ?_ 4 _ rfl; (with_reducible repeat (first | refine zlaa ?_ _ | refine zlac ?_ | refine zlab ?_ _)); refine blk_put (cs := #[.slice Ao79 zlau.length co79, .slice none 0 0, .int .i64 a0_2, .bool false, .slice none 0 0, .int .i64 0]) ?_ 3 _ rfl; (with_reducible repeat (first | refine zlaa ?_ _ | refine zlac ?_ | refine zlab ?_ _)); refine blk_put (cs := #[.slice Ao79 zlau.length co79, .slice none 0 0, .int .i64 0, .bool false, .slice none 0 0, .int .i64 0]) ?_ 2 _ rfl; (with_reducible repeat (first | refine zlaa ?_ _ | refine zlac ?_ | refine zlab ?_ _)); refine blk_put (cs := #[.slice Ao79 zlau.length co79, .slice none 0 0, .int .i64 0, .bool false, .slice none 0 0, .int .i64 0]) ?_ 1 _ rfl; (with_reducible repeat (first | refine zlaa ?_ _ | refine zlac ?_ | refine zlab ?_ _)); refine blk_put (cs := #[.slice none 0 0, .slice none 0 0, .int .i64 0, .bool false, .slice none 0 0, .int .i64 0]) ?_ 0 _ rfl; (iterate 2 ((with_reducible repeat (first | refine zlaa ?_ _ | refine zlac ?_ | refine zlab ?_ _)); refine blk_far ?_ zlax.out _)); exact zbk zlat) Try.underlying57 rfl (by kernel_rfl)) rfl ?_
     exact ⟨_, _, _, by first | rfl | (simp [errW_none, errW_some] <;> rfl) | (simp [*, errW_none, errW_some] <;> rfl), by (with_reducible repeat (first | apply Kd.V_alloc | apply Kd.V_drewN | apply Kd.V_drew)); exact Kd.V_mono (Kd.V_far (p := ⟨zlar, 5, none⟩) (Kd.V_far (p := ⟨zlar, 4, none⟩) (Kd.V_far (p := ⟨zlar, 3, none⟩) (Kd.V_far (p := ⟨zlar, 2, none⟩) (Kd.V_far (p := ⟨zlar, 1, none⟩) (Kd.V_far (p := ⟨zlar, 0, none⟩) (Kd.V_far (p := ⟨zlap, 3, none⟩) (Kd.V_far (p := ⟨zlap, 1, none⟩) (Kd.V_mono (Kd.V_mono HO_283000.out (fun k_ hk => (⟨hk, hk.2.1⟩ : _ ∧ k_ ≠ zlap))) (fun k_ hk => (⟨hk, hk.1.2.2⟩ : _ ∧ k_ ≠ zlar))) (fun _ hk => hk.1.2) (.slice none 0 0)) (fun _ hk => hk.1.2) (.bool true)) (fun _ hk => hk.2) (.slice Ao79 zlau.length co79)) (fun _ hk => hk.2) (.slice none 0 0)) (fun _ hk => hk.2) (.int .i64 a0_2)) (fun _ hk => hk.2) (.bool true)) (fun _ hk => hk.2) (.slice A0_4 l0_4.length c0_4)) (fun _ hk => hk.2) (.int .i64 a0_5)) (fun _ hk => hk.1.1.1), Kd.V_nil _ _ _ _ _, by (with_reducible repeat (first | apply Kd.V_alloc | apply Kd.V_drewN | apply Kd.V_drew)); exact Kd.V_mono (Kd.V_far (p := ⟨zlar, 5, none⟩) (Kd.V_far (p := ⟨zlar, 4, none⟩) (Kd.V_far (p := ⟨zlar, 3, none⟩) (Kd.V_far (p := ⟨zlar, 2, none⟩) (Kd.V_far (p := ⟨zlar, 1, none⟩) (Kd.V_far (p := ⟨zlar, 0, none⟩) (Kd.V_far (p := ⟨zlap, 3, none⟩) (Kd.V_far (p := ⟨zlap, 1, none⟩) (Kd.V_mono (Kd.V_mono HO_283004.out (fun k_ hk => (⟨hk, hk.2.1⟩ : _ ∧ k_ ≠ zlap))) (fun k_ hk => (⟨hk, hk.1.2.2⟩ : _ ∧ k_ ≠ zlar))) (fun _ hk => hk.1.2) (.slice none 0 0)) (fun _ hk => hk.1.2) (.bool true)) (fun _ hk => hk.2) (.slice Ao79 zlau.length co79)) (fun _ hk => hk.2) (.slice none 0 0)) (fun _ hk => hk.2) (.int .i64 a0_2)) (fun _ hk => hk.2) (.bool true)) (fun _ hk => hk.2) (.slice A0_4 l0_4.length c0_4)) (fun _ hk => hk.2) (.int .i64 a0_5)) (fun _ hk => hk.1.1.1), by repeat (first | (with_reducible first | exact HB.out | apply zlag | apply zlae | apply zlaf | refine zlad ?_ zlav.out | refine zlad ?_ zlaw.out) | exact HB.out)⟩

end Go.Proofs.Ytabngibognlmoaa.Q