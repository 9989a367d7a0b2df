

/- Written by a program of this session (wip/patch_print.py over the kit's print): functions of the given program as plain Lean functions, and that each call does what its function says, under no further conditions. -/
import Derived.Test.YtmpnaaegahjfkaaQx0
import Derived.Test.YtmpnaaegahjfkaaQx9
import Derived.Test.YtmpnaaegahjfkaaQx11
namespace Go.Proofs.Ytmpnaaegahjfkaa.Q
open Go.RowKit Go.Proofs.YtmpnaaegahjfkaaW.PrintWords Go.Proofs.YtmpnaaegahjfkaaW.PrintLast Go.Proofs.YtmpnaaegahjfkaaW.PrintMore
attribute [local go_sem] max2_int min2_int max_two min_two max_three min_three max_four min_four   -- for this text's walks alone
set_option linter.unusedVariables false
set_option linter.unusedSimpArgs false
attribute [local go_sem] xor_ones_u8 xor_ones_u16 xor_ones_u32 xor_ones_u64 cell_twice frozen_twice
abbrev zamaa := @blk_drewN
abbrev zamab := @blk_alloc
abbrev zamac := @blk_drew
abbrev zamad := @below_set
abbrev zamae := @pw_below_drewN
abbrev zamaf := @below_drew1
abbrev zamag := @below_alloc
abbrev zamah := @blk_cell
abbrev zamai := @blk_frozen
abbrev zamaj := @Aside0.mk
/-! ### stowageref13_Put: function 17 -/
mutual
def stowageref13_Put.j0 : Nat → List (S36) → Bool → Int → Bool → Int → ByteArray → List (S74) → Option ((List (S36)) × Int)
 | 0, _, _, _, _, _, _, _ => none
 | k + 1, x0, x14, zamar, zamat, zamau, zamav, zamaw => if x14 = true then (some (([] : List (S36)), 1)) else (stowageref13_Put.l0 k x0 0 zamar zamat zamau zamav zamaw)
def stowageref13_Put.l0 : Nat → List (S36) → Int → Int → Bool → Int → ByteArray → List (S74) → Option ((List (S36)) × Int)
 | 0, _, _, _, _, _, _, _ => none
 | k + 1, x0, x6, zamar, zamat, zamau, zamav, zamaw => if x6 < (x0.length : Int) then (if 0 ≤ x6 then (if ((rd_T36 x0 x6).f0) ≥ zamar then (some (([] : List (S36)), 1)) else (stowageref13_Put.l0 k x0 (wrap64 (x6 + 1)) zamar zamat zamau zamav zamaw)) else (none)) else (if (x0.length : Int) ≥ 32 then (some (([] : List (S36)), 131)) else ((some (([(⟨zamar, zamat, zamau, zamav, zamaw⟩ : S36)] : List (S36)) : List (S36))).bind fun y249 => (if y249.length + x0.length < 2199023255552 then (some ((y249 ++ x0), 0)) else (none))))
end
def stowageref13_Put.f (k : Nat) (l0 : List (S36)) (a1_0 : Int) (a1_1 : Bool) (a1_2 : Int) (a1_3 : ByteArray) (l1_4 : List (S74)) : Option ((List (S36)) × Int) := (stowageref13_May.f k l0).bind fun t246 => (if t246 = true then ((stowageref13_Check.f k a1_0 a1_1 a1_2 a1_3 l1_4).bind fun t247 => (stowageref13_Put.j0 k l0 (t247 != 0) a1_0 a1_1 a1_2 a1_3 l1_4)) else (stowageref13_Put.j0 k l0 true a1_0 a1_1 a1_2 a1_3 l1_4))
set_option maxHeartbeats 8000000 in
set_option maxRecDepth 100000 in
theorem stowageref13_Put.calls (k : Nat) (P0_ : Nat → Prop) (A0 : Option Addr) (c0 : Nat) (l0 : List (S36)) (a1_0 : Int) (a1_1 : Bool) (a1_2 : Int) (a1_3 : ByteArray) (P1_4_ : Nat → Prop) (A1_4 : Option Addr) (c1_4 : Nat) (l1_4 : List (S74)) (r1 : List (S36)) (r2 : Int) (w : World) (hs0 : Kd.V k36 36 w w.heap.size (fun k_ => P0_ k_) (.slice A0 l0.length c0) l0) (hs1_4 : Kd.V k74 74 w w.heap.size (fun k_ => P1_4_ k_) (.slice A1_4 l1_4.length c1_4) l1_4) (h : stowageref13_Put.f k l0 a1_0 a1_1 a1_2 a1_3 l1_4 = some (r1, r2)) :
  Calls Try.prog 17 #[.slice A0 l0.length c0, .agg #[.int .i64 a1_0, .bool a1_1, .int .i64 a1_2, .string a1_3, .slice A1_4 l1_4.length c1_4]] w fun e w' => ∃ v0_ : Value, e = .returned (.tuple #[v0_, .int .i64 r2]) ∧ Kd.N k36 36 w' w.heap.size (fun k_ => ((P0_ k_ ∨ P1_4_ k_) ∨ w.heap.size ≤ k_)) v0_ r1 ∧ Below w.heap.size w w' := by
 have hu36 := Try.underlying36
 have HO0 := zamaj (show Kd.V k36 36 w w.heap.size (fun k_ => ((P0_ k_ ∨ P1_4_ k_) ∨ w.heap.size ≤ k_)) (.slice A0 l0.length c0) l0 from Kd.V_mono hs0 (fun k_ hk => .inl (.inl hk)))
 have HO1_4 := zamaj (show Kd.V k74 74 w w.heap.size (fun k_ => ((P0_ k_ ∨ P1_4_ k_) ∨ w.heap.size ≤ k_)) (.slice A1_4 l1_4.length c1_4) l1_4 from Kd.V_mono hs1_4 (fun k_ hk => .inl (.inr hk)))
 have HB := zamaj (Below.refl w.heap.size w)
 have H : ((stowageref13_May.f k l0).bind fun t246 => (if t246 = true then ((stowageref13_Check.f k a1_0 a1_1 a1_2 a1_3 l1_4).bind fun t247 => (stowageref13_Put.j0 k l0 (t247 != 0) a1_0 a1_1 a1_2 a1_3 l1_4)) else (stowageref13_Put.j0 k l0 true a1_0 a1_1 a1_2 a1_3 l1_4))) = some (r1, r2) := h
 clear h
 have HC3 := zamaj H
 clear H
 go_enter Try.func17, Try.ntmps17
 go_upto_region 1 with (first | ((with_reducible refine gate_dst (N := 3) rfl ?_); refine box_event ?hg (N := 3) ?hd (cs := #[.int .i64 a1_0, .bool a1_1, .int .i64 a1_2, .string a1_3, .slice A1_4 l1_4.length c1_4]) (t := 36) ?hr ?_; (case hd => rfl); (case hg => rfl); (case hr => first | (go_simp; done) | (go_simp; rfl)); intro zamal hg w4 hbox hb; have n0_ := zamaj (Kd.V_below (Kd.V_elderB (by (with_reducible repeat (first | apply Kd.V_alloc | apply Kd.V_drewN | apply Kd.V_drew)); exact HO0.out) zamal (Nat.le_of_eq hg.symm)) hb); have n1_ := zamaj (Kd.V_below (Kd.V_elderB (by (with_reducible repeat (first | apply Kd.V_alloc | apply Kd.V_drewN | apply Kd.V_drew)); exact HO1_4.out) zamal (Nat.le_of_eq hg.symm)) hb); have n2_ := zamaj (below_step (by repeat (first | (with_reducible first | exact HB.out | apply zamag | apply zamae | apply zamaf) | exact HB.out)) hb); have n3_ := zamaj (hbox); have n4_ := zamaj ((by rw [hg]; exact (below_size (by repeat (first | (with_reducible first | exact HB.out | apply zamag | apply zamae | apply zamaf) | exact HB.out))) : w.heap.size ≤ zamal)); have n5_ := zamaj ((by rw [hg]; exact (below_size (by repeat (first | (with_reducible first | exact HB.out | apply zamag | apply zamae | apply zamaf) | exact HB.out))) : w.heap.size ≤ zamal)); clear HO0; clear HO1_4; clear HB; have HO0 := n0_; have HO1_4 := n1_; have HB := n2_; have zamak := n3_; have zambi := n4_; have zaman := n5_; clear n0_ n1_ n2_ n3_ n4_ n5_; clear hb hbox hg))
 repeat (go_quiet (first | ((with_reducible refine gate_dst (N := 3) rfl ?_); refine box_event ?hg (N := 3) ?hd (cs := #[.int .i64 a1_0, .bool a1_1, .int .i64 a1_2, .string a1_3, .slice A1_4 l1_4.length c1_4]) (t := 36) ?hr ?_; (case hd => rfl); (case hg => rfl); (case hr => first | (go_simp; done) | (go_simp; rfl)); intro zamal hg w4 hbox hb; have n0_ := zamaj (Kd.V_below (Kd.V_elderB (by (with_reducible repeat (first | apply Kd.V_alloc | apply Kd.V_drewN | apply Kd.V_drew)); exact HO0.out) zamal (Nat.le_of_eq hg.symm)) hb); have n1_ := zamaj (Kd.V_below (Kd.V_elderB (by (with_reducible repeat (first | apply Kd.V_alloc | apply Kd.V_drewN | apply Kd.V_drew)); exact HO1_4.out) zamal (Nat.le_of_eq hg.symm)) hb); have n2_ := zamaj (below_step (by repeat (first | (with_reducible first | exact HB.out | apply zamag | apply zamae | apply zamaf) | exact HB.out)) hb); have n3_ := zamaj (hbox); have n4_ := zamaj ((by rw [hg]; exact (below_size (by repeat (first | (with_reducible first | exact HB.out | apply zamag | apply zamae | apply zamaf) | exact HB.out))) : w.heap.size ≤ zamal)); have n5_ := zamaj ((by rw [hg]; exact (below_size (by repeat (first | (with_reducible first | exact HB.out | apply zamag | apply zamae | apply zamaf) | exact HB.out))) : w.heap.size ≤ zamal)); clear HO0; clear HO1_4; clear HB; have HO0 := n0_; have HO1_4 := n1_; have HB := n2_; have zamak := n3_; have zambi := n4_; have zaman := n5_; clear n0_ n1_ n2_ n3_ n4_ n5_; clear hb hbox hg)); go_upto_region 1 with (first | ((with_reducible refine gate_dst (N := 3) rfl ?_); refine box_event ?hg (N := 3) ?hd (cs := #[.int .i64 a1_0, .bool a1_1, .int .i64 a1_2, .string a1_3, .slice A1_4 l1_4.length c1_4]) (t := 36) ?hr ?_; (case hd => rfl); (case hg => rfl); (case hr => first | (go_simp; done) | (go_simp; rfl)); intro zamal hg w4 hbox hb; have n0_ := zamaj (Kd.V_below (Kd.V_elderB (by (with_reducible repeat (first | apply Kd.V_alloc | apply Kd.V_drewN | apply Kd.V_drew)); exact HO0.out) zamal (Nat.le_of_eq hg.symm)) hb); have n1_ := zamaj (Kd.V_below (Kd.V_elderB (by (with_reducible repeat (first | apply Kd.V_alloc | apply Kd.V_drewN | apply Kd.V_drew)); exact HO1_4.out) zamal (Nat.le_of_eq hg.symm)) hb); have n2_ := zamaj (below_step (by repeat (first | (with_reducible first | exact HB.out | apply zamag | apply zamae | apply zamaf) | exact HB.out)) hb); have n3_ := zamaj (hbox); have n4_ := zamaj ((by rw [hg]; exact (below_size (by repeat (first | (with_reducible first | exact HB.out | apply zamag | apply zamae | apply zamaf) | exact HB.out))) : w.heap.size ≤ zamal)); have n5_ := zamaj ((by rw [hg]; exact (below_size (by repeat (first | (with_reducible first | exact HB.out | apply zamag | apply zamae | apply zamaf) | exact HB.out))) : w.heap.size ≤ zamal)); clear HO0; clear HO1_4; clear HB; have HO0 := n0_; have HO1_4 := n1_; have HB := n2_; have zamak := n3_; have zambi := n4_; have zaman := n5_; clear n0_ n1_ n2_ n3_ n4_ n5_; clear hb hbox hg)))
 (try simp only [Act.put, List.setIfInBounds_toArray, List.set_cons_zero, List.set_cons_succ])
 go_cut [14] (fun v14 wc => ∃ (kq : Nat) (zambh : Bool), v14 = .bool zambh ∧ Aside0 (stowageref13_Put.j0 kq l0 zambh a1_0 a1_1 a1_2 a1_3 l1_4 = some (r1, r2)) ∧ Aside0 (kq ≤ k) ∧ Aside0 (Kd.V k36 36 wc w.heap.size (fun k_ => ((P0_ k_ ∨ P1_4_ k_) ∨ w.heap.size ≤ k_) ∧ k_ ≠ zamal) (.slice A0 l0.length c0) l0) ∧ Aside0 (Kd.V k74 74 wc w.heap.size (fun k_ => ((P0_ k_ ∨ P1_4_ k_) ∨ w.heap.size ≤ k_) ∧ k_ ≠ zamal) (.slice A1_4 l1_4.length c1_4) l1_4) ∧ Aside0 (wc.heap[zamal]? = some (.cells #[.int .i64 a1_0, .bool a1_1, .int .i64 a1_2, .string a1_3, (.slice A1_4 l1_4.length c1_4)] 36 (0, 0))) ∧ Aside0 (Below w.heap.size w wc))
 case first =>
  have H := HC3.out
  clear HC3
  replace H := Option.bind_eq_some_iff.mp H
  obtain ⟨t246, A50, H⟩ := H
  replace H : (if t246 = true then ((stowageref13_Check.f k a1_0 a1_1 a1_2 a1_3 l1_4).bind fun t247 => (stowageref13_Put.j0 k l0 (t247 != 0) a1_0 a1_1 a1_2 a1_3 l1_4)) else (stowageref13_Put.j0 k l0 true a1_0 a1_1 a1_2 a1_3 l1_4)) = some (r1, r2) := H
  have A5 := zamaj A50
  clear A50
  by_cases c6 : t246 = true
  ·subst c6
   have H1 : ((stowageref13_Check.f k a1_0 a1_1 a1_2 a1_3 l1_4).bind fun t247 => (stowageref13_Put.j0 k l0 (t247 != 0) a1_0 a1_1 a1_2 a1_3 l1_4)) = some (r1, r2) := by rw [if_pos rfl] at H; exact H
   clear H
   have H := H1
   clear H1
   replace H := Option.bind_eq_some_iff.mp H
   obtain ⟨t247, A70, H⟩ := H
   replace H : (stowageref13_Put.j0 k l0 (t247 != 0) a1_0 a1_1 a1_2 a1_3 l1_4) = some (r1, r2) := H
   have A7 := zamaj A70
   clear A70
   have H' := zamaj H
   clear H
   go_wp2_with (first | (go_at_call 40; (with_reducible refine (stowageref13_May.calls k _ _ l0 true _ ?side1 ?side2 A5.out).mono ?_); (case side1 => repeat (first | exact (Kd.V_reads' HO0.out).2.2 | (with_reducible refine Kd.C_alloc ?_ _) | (with_reducible refine Kd.C_drewN ?_ _) | (with_reducible refine Kd.C_drew ?_))); (case side2 => exact (Kd.V_reads' HO0.out).2.1); rintro e w8 ⟨rfl, hb⟩; have n0_ := zamaj (Kd.V_below (by (with_reducible repeat (first | apply Kd.V_alloc | apply Kd.V_drewN | apply Kd.V_drew)); exact HO0.out) hb); have n1_ := zamaj (Kd.V_below (by (with_reducible repeat (first | apply Kd.V_alloc | apply Kd.V_drewN | apply Kd.V_drew)); exact HO1_4.out) hb); have n2_ := zamaj (blk_below (g := zamal) (o := .cells #[.int .i64 a1_0, .bool a1_1, .int .i64 a1_2, .string a1_3, .slice A1_4 l1_4.length c1_4] 36 (0, 0)) (by (with_reducible repeat (first | refine zamaa ?_ _ | refine zamac ?_ | refine zamab ?_ _)); exact zamak.out) hb); have n3_ := zamaj (below_step (by repeat (first | (with_reducible first | exact HB.out | apply zamag | apply zamae | apply zamaf | refine zamad ?_ zaman.out) | exact HB.out)) hb); clear HO0; clear HO1_4; clear zamak; clear HB; have HO0 := n0_; have HO1_4 := n1_; have zamak := n2_; have HB := n3_; clear n0_ n1_ n2_ n3_; (try clear hb); (try clear hk); (try clear hi); have zamax : w8.cell? ⟨zamal, 0, none⟩ = some (.int .i64 a1_0) := (zamah zamak.out 0).trans rfl; have zamay : w8.cell? ⟨zamal, 1, none⟩ = some (.bool a1_1) := (zamah zamak.out 1).trans rfl; have zamaz : w8.cell? ⟨zamal, 2, none⟩ = some (.int .i64 a1_2) := (zamah zamak.out 2).trans rfl; have zamba : w8.cell? ⟨zamal, 3, none⟩ = some (.string a1_3) := (zamah zamak.out 3).trans rfl; have zambb : w8.cell? ⟨zamal, 4, none⟩ = some (.slice A1_4 l1_4.length c1_4) := (zamah zamak.out 4).trans rfl; have zambc := zamai zamak.out 0; have zambd := zamai zamak.out 1; have zambe := zamai zamak.out 2; have zambf := zamai zamak.out 3; have zambg := zamai zamak.out 4) | (go_at_call 14; (with_reducible refine (stowageref13_Check.calls k a1_0 a1_1 a1_2 a1_3 _ _ l1_4 t247 _ ?side1 ?side2 A7.out).mono ?_); (case side1 => repeat (first | exact (Kd.V_reads' HO1_4.out).2.2 | (with_reducible refine Kd.C_alloc ?_ _) | (with_reducible refine Kd.C_drewN ?_ _) | (with_reducible refine Kd.C_drew ?_))); (case side2 => exact (Kd.V_reads' HO1_4.out).2.1); rintro e w10 ⟨rfl, hb⟩; have n0_ := zamaj (Kd.V_below (by (with_reducible repeat (first | apply Kd.V_alloc | apply Kd.V_drewN | apply Kd.V_drew)); exact HO0.out) hb); have n1_ := zamaj (Kd.V_below (by (with_reducible repeat (first | apply Kd.V_alloc | apply Kd.V_drewN | apply Kd.V_drew)); exact HO1_4.out) hb); have n2_ := zamaj (blk_below (g := zamal) (o := .cells #[.int .i64 a1_0, .bool a1_1, .int .i64 a1_2, .string a1_3, .slice A1_4 l1_4.length c1_4] 36 (0, 0)) (by (with_reducible repeat (first | refine zamaa ?_ _ | refine zamac ?_ | refine zamab ?_ _)); exact zamak.out) hb); have n3_ := zamaj (below_step (by repeat (first | (with_reducible first | exact HB.out | apply zamag | apply zamae | apply zamaf | refine zamad ?_ zaman.out) | exact HB.out)) hb); clear HO0; clear HO1_4; clear zamak; clear HB; have HO0 := n0_; have HO1_4 := n1_; have zamak := n2_; have HB := n3_; clear n0_ n1_ n2_ n3_; (try clear hb); (try clear hk); (try clear hi)))
   repeat (go_quiet (first | (go_at_call 40; (with_reducible refine (stowageref13_May.calls k _ _ l0 true _ ?side1 ?side2 A5.out).mono ?_); (case side1 => repeat (first | exact (Kd.V_reads' HO0.out).2.2 | (with_reducible refine Kd.C_alloc ?_ _) | (with_reducible refine Kd.C_drewN ?_ _) | (with_reducible refine Kd.C_drew ?_))); (case side2 => exact (Kd.V_reads' HO0.out).2.1); rintro e w8 ⟨rfl, hb⟩; have n0_ := zamaj (Kd.V_below (by (with_reducible repeat (first | apply Kd.V_alloc | apply Kd.V_drewN | apply Kd.V_drew)); exact HO0.out) hb); have n1_ := zamaj (Kd.V_below (by (with_reducible repeat (first | apply Kd.V_alloc | apply Kd.V_drewN | apply Kd.V_drew)); exact HO1_4.out) hb); have n2_ := zamaj (blk_below (g := zamal) (o := .cells #[.int .i64 a1_0, .bool a1_1, .int .i64 a1_2, .string a1_3, .slice A1_4 l1_4.length c1_4] 36 (0, 0)) (by (with_reducible repeat (first | refine zamaa ?_ _ | refine zamac ?_ | refine zamab ?_ _)); exact zamak.out) hb); have n3_ := zamaj (below_step (by repeat (first | (with_reducible first | exact HB.out | apply zamag | apply zamae | apply zamaf | refine zamad ?_ zaman.out) | exact HB.out)) hb); clear HO0; clear HO1_4; clear zamak; clear HB; have HO0 := n0_; have HO1_4 := n1_; have zamak := n2_; have HB := n3_; clear n0_ n1_ n2_ n3_; (try clear hb); (try clear hk); (try clear hi); have zamax : w8.cell? ⟨zamal, 0, none⟩ = some (.int .i64 a1_0) := (zamah zamak.out 0).trans rfl; have zamay : w8.cell? ⟨zamal, 1, none⟩ = some (.bool a1_1) := (zamah zamak.out 1).trans rfl; have zamaz : w8.cell? ⟨zamal, 2, none⟩ = some (.int .i64 a1_2) := (zamah zamak.out 2).trans rfl; have zamba : w8.cell? ⟨zamal, 3, none⟩ = some (.string a1_3) := (zamah zamak.out 3).trans rfl; have zambb : w8.cell? ⟨zamal, 4, none⟩ = some (.slice A1_4 l1_4.length c1_4) := (zamah zamak.out 4).trans rfl; have zambc := zamai zamak.out 0; have zambd := zamai zamak.out 1; have zambe := zamai zamak.out 2; have zambf := zamai zamak.out 3; have zambg := zamai zamak.out 4) | (go_at_call 14; (with_reducible refine (stowageref13_Check.calls k a1_0 a1_1 a1_2 a1_3 _ _ l1_4 t247 _ ?side1 ?side2 A7.out).mono ?_); (case side1 => repeat (first | exact (Kd.V_reads' HO1_4.out).2.2 | (with_reducible refine Kd.C_alloc ?_ _) | (with_reducible refine Kd.C_drewN ?_ _) | (with_reducible refine Kd.C_drew ?_))); (case side2 => exact (Kd.V_reads' HO1_4.out).2.1); rintro e w10 ⟨rfl, hb⟩; have n0_ := zamaj (Kd.V_below (by (with_reducible repeat (first | apply Kd.V_alloc | apply Kd.V_drewN | apply Kd.V_drew)); exact HO0.out) hb); have n1_ := zamaj (Kd.V_below (by (with_reducible repeat (first | apply Kd.V_alloc | apply Kd.V_drewN | apply Kd.V_drew)); exact HO1_4.out) hb); have n2_ := zamaj (blk_below (g := zamal) (o := .cells #[.int .i64 a1_0, .bool a1_1, .int .i64 a1_2, .string a1_3, .slice A1_4 l1_4.length c1_4] 36 (0, 0)) (by (with_reducible repeat (first | refine zamaa ?_ _ | refine zamac ?_ | refine zamab ?_ _)); exact zamak.out) hb); have n3_ := zamaj (below_step (by repeat (first | (with_reducible first | exact HB.out | apply zamag | apply zamae | apply zamaf | refine zamad ?_ zaman.out) | exact HB.out)) hb); clear HO0; clear HO1_4; clear zamak; clear HB; have HO0 := n0_; have HO1_4 := n1_; have zamak := n2_; have HB := n3_; clear n0_ n1_ n2_ n3_; (try clear hb); (try clear hk); (try clear hi))); try go_wp2_with (first | (go_at_call 40; (with_reducible refine (stowageref13_May.calls k _ _ l0 true _ ?side1 ?side2 A5.out).mono ?_); (case side1 => repeat (first | exact (Kd.V_reads' HO0.out).2.2 | (with_reducible refine Kd.C_alloc ?_ _) | (with_reducible refine Kd.C_drewN ?_ _) | (with_reducible refine Kd.C_drew ?_))); (case side2 => exact (Kd.V_reads' HO0.out).2.1); rintro e w8 ⟨rfl, hb⟩; have n0_ := zamaj (Kd.V_below (by (with_reducible repeat (first | apply Kd.V_alloc | apply Kd.V_drewN | apply Kd.V_drew)); exact HO0.out) hb); have n1_ := zamaj (Kd.V_below (by (with_reducible repeat (first | apply Kd.V_alloc | apply Kd.V_drewN | apply Kd.V_drew)); exact HO1_4.out) hb); have n2_ := zamaj (blk_below (g := zamal) (o := .cells #[.int .i64 a1_0, .bool a1_1, .int .i64 a1_2, .string a1_3, .slice A1_4 l1_4.length c1_4] 36 (0, 0)) (by (with_reducible repeat (first | refine zamaa ?_ _ | refine zamac ?_ | refine zamab ?_ _)); exact zamak.out) hb); have n3_ := zamaj (below_step (by repeat (first | (with_reducible first | exact HB.out | apply zamag | apply zamae | apply zamaf | refine zamad ?_ zaman.out) | exact HB.out)) hb); clear HO0; clear HO1_4; clear zamak; clear HB; have HO0 := n0_; have HO1_4 := n1_; have zamak := n2_; have HB := n3_; clear n0_ n1_ n2_ n3_; (try clear hb); (try clear hk); (try clear hi); have zamax : w8.cell? ⟨zamal, 0, none⟩ = some (.int .i64 a1_0) := (zamah zamak.out 0).trans rfl; have zamay : w8.cell? ⟨zamal, 1, none⟩ = some (.bool a1_1) := (zamah zamak.out 1).trans rfl; have zamaz : w8.cell? ⟨zamal, 2, none⟩ = some (.int .i64 a1_2) := (zamah zamak.out 2).trans rfl; have zamba : w8.cell? ⟨zamal, 3, none⟩ = some (.string a1_3) := (zamah zamak.out 3).trans rfl; have zambb : w8.cell? ⟨zamal, 4, none⟩ = some (.slice A1_4 l1_4.length c1_4) := (zamah zamak.out 4).trans rfl; have zambc := zamai zamak.out 0; have zambd := zamai zamak.out 1; have zambe := zamai zamak.out 2; have zambf := zamai zamak.out 3; have zambg := zamai zamak.out 4) | (go_at_call 14; (with_reducible refine (stowageref13_Check.calls k a1_0 a1_1 a1_2 a1_3 _ _ l1_4 t247 _ ?side1 ?side2 A7.out).mono ?_); (case side1 => repeat (first | exact (Kd.V_reads' HO1_4.out).2.2 | (with_reducible refine Kd.C_alloc ?_ _) | (with_reducible refine Kd.C_drewN ?_ _) | (with_reducible refine Kd.C_drew ?_))); (case side2 => exact (Kd.V_reads' HO1_4.out).2.1); rintro e w10 ⟨rfl, hb⟩; have n0_ := zamaj (Kd.V_below (by (with_reducible repeat (first | apply Kd.V_alloc | apply Kd.V_drewN | apply Kd.V_drew)); exact HO0.out) hb); have n1_ := zamaj (Kd.V_below (by (with_reducible repeat (first | apply Kd.V_alloc | apply Kd.V_drewN | apply Kd.V_drew)); exact HO1_4.out) hb); have n2_ := zamaj (blk_below (g := zamal) (o := .cells #[.int .i64 a1_0, .bool a1_1, .int .i64 a1_2, .string a1_3, .slice A1_4 l1_4.length c1_4] 36 (0, 0)) (by (with_reducible repeat (first | refine zamaa ?_ _ | refine zamac ?_ | refine zamab ?_ _)); exact zamak.out) hb); have n3_ := zamaj (below_step (by repeat (first | (with_reducible first | exact HB.out | apply zamag | apply zamae | apply zamaf | refine zamad ?_ zaman.out) | exact HB.out)) hb); clear HO0; clear HO1_4; clear zamak; clear HB; have HO0 := n0_; have HO1_4 := n1_; have zamak := n2_; have HB := n3_; clear n0_ n1_ n2_ n3_; (try clear hb); (try clear hk); (try clear hi))))
   go_meet
   case rel => exact ⟨_, ((t247 != 0)), (by first | rfl | (simp; done) | (simp [*]; done)), H', ⟨by first | omega | exact Nat.le_refl _⟩, ⟨by (with_reducible repeat (first | apply Kd.V_alloc | apply Kd.V_drewN | apply Kd.V_drew)); exact HO0.out⟩, ⟨by (with_reducible repeat (first | apply Kd.V_alloc | apply Kd.V_drewN | apply Kd.V_drew)); exact HO1_4.out⟩, ⟨by (with_reducible repeat (first | refine zamaa ?_ _ | refine zamac ?_ | refine zamab ?_ _)); exact zamak.out⟩, ⟨by repeat (first | (with_reducible first | exact HB.out | apply zamag | apply zamae | apply zamaf | refine zamad ?_ zaman.out) | exact HB.out)⟩⟩
  ·replace c6 := Bool.eq_false_iff.mpr c6
   subst c6
   have H1 : (stowageref13_Put.j0 k l0 true a1_0 a1_1 a1_2 a1_3 l1_4) = some (r1, r2) := by rw [if_neg (show ¬ (false = true) by decide)] at H; exact H
   clear H
   have H := H1
   clear H1
   have H' := zamaj H
   clear H
   go_wp2_with (first | (go_at_call 40; (with_reducible refine (stowageref13_May.calls k _ _ l0 false _ ?side1 ?side2 A5.out).mono ?_); (case side1 => repeat (first | exact (Kd.V_reads' HO0.out).2.2 | (with_reducible refine Kd.C_alloc ?_ _) | (with_reducible refine Kd.C_drewN ?_ _) | (with_reducible refine Kd.C_drew ?_))); (case side2 => exact (Kd.V_reads' HO0.out).2.1); rintro e w11 ⟨rfl, hb⟩; have n0_ := zamaj (Kd.V_below (by (with_reducible repeat (first | apply Kd.V_alloc | apply Kd.V_drewN | apply Kd.V_drew)); exact HO0.out) hb); have n1_ := zamaj (Kd.V_below (by (with_reducible repeat (first | apply Kd.V_alloc | apply Kd.V_drewN | apply Kd.V_drew)); exact HO1_4.out) hb); have n2_ := zamaj (blk_below (g := zamal) (o := .cells #[.int .i64 a1_0, .bool a1_1, .int .i64 a1_2, .string a1_3, .slice A1_4 l1_4.length c1_4] 36 (0, 0)) (by (with_reducible repeat (first | refine zamaa ?_ _ | refine zamac ?_ | refine zamab ?_ _)); exact zamak.out) hb); have n3_ := zamaj (below_step (by repeat (first | (with_reducible first | exact HB.out | apply zamag | apply zamae | apply zamaf | refine zamad ?_ zaman.out) | exact HB.out)) hb); clear HO0; clear HO1_4; clear zamak; clear HB; have HO0 := n0_; have HO1_4 := n1_; have zamak := n2_; have HB := n3_; clear n0_ n1_ n2_ n3_; (try clear hb); (try clear hk); (try clear hi)))
   repeat (go_quiet (first | (go_at_call 40; (with_reducible refine (stowageref13_May.calls k _ _ l0 false _ ?side1 ?side2 A5.out).mono ?_); (case side1 => repeat (first | exact (Kd.V_reads' HO0.out).2.2 | (with_reducible refine Kd.C_alloc ?_ _) | (with_reducible refine Kd.C_drewN ?_ _) | (with_reducible refine Kd.C_drew ?_))); (case side2 => exact (Kd.V_reads' HO0.out).2.1); rintro e w11 ⟨rfl, hb⟩; have n0_ := zamaj (Kd.V_below (by (with_reducible repeat (first | apply Kd.V_alloc | apply Kd.V_drewN | apply Kd.V_drew)); exact HO0.out) hb); have n1_ := zamaj (Kd.V_below (by (with_reducible repeat (first | apply Kd.V_alloc | apply Kd.V_drewN | apply Kd.V_drew)); exact HO1_4.out) hb); have n2_ := zamaj (blk_below (g := zamal) (o := .cells #[.int .i64 a1_0, .bool a1_1, .int .i64 a1_2, .string a1_3, .slice A1_4 l1_4.length c1_4] 36 (0, 0)) (by (with_reducible repeat (first | refine zamaa ?_ _ | refine zamac ?_ | refine zamab ?_ _)); exact zamak.out) hb); have n3_ := zamaj (below_step (by repeat (first | (with_reducible first | exact HB.out | apply zamag | apply zamae | apply zamaf | refine zamad ?_ zaman.out) | exact HB.out)) hb); clear HO0; clear HO1_4; clear zamak; clear HB; have HO0 := n0_; have HO1_4 := n1_; have zamak := n2_; have HB := n3_; clear n0_ n1_ n2_ n3_; (try clear hb); (try clear hk); (try clear hi))); try go_wp2_with (first | (go_at_call 40; (with_reducible refine (stowageref13_May.calls k _ _ l0 false _ ?side1 ?side2 A5.out).mono ?_); (case side1 => repeat (first | exact (Kd.V_reads' HO0.out).2.2 | (with_reducible refine Kd.C_alloc ?_ _) | (with_reducible refine Kd.C_drewN ?_ _) | (with_reducible refine Kd.C_drew ?_))); (case side2 => exact (Kd.V_reads' HO0.out).2.1); rintro e w11 ⟨rfl, hb⟩; have n0_ := zamaj (Kd.V_below (by (with_reducible repeat (first | apply Kd.V_alloc | apply Kd.V_drewN | apply Kd.V_drew)); exact HO0.out) hb); have n1_ := zamaj (Kd.V_below (by (with_reducible repeat (first | apply Kd.V_alloc | apply Kd.V_drewN | apply Kd.V_drew)); exact HO1_4.out) hb); have n2_ := zamaj (blk_below (g := zamal) (o := .cells #[.int .i64 a1_0, .bool a1_1, .int .i64 a1_2, .string a1_3, .slice A1_4 l1_4.length c1_4] 36 (0, 0)) (by (with_reducible repeat (first | refine zamaa ?_ _ | refine zamac ?_ | refine zamab ?_ _)); exact zamak.out) hb); have n3_ := zamaj (below_step (by repeat (first | (with_reducible first | exact HB.out | apply zamag | apply zamae | apply zamaf | refine zamad ?_ zaman.out) | exact HB.out)) hb); clear HO0; clear HO1_4; clear zamak; clear HB; have HO0 := n0_; have HO1_4 := n1_; have zamak := n2_; have HB := n3_; clear n0_ n1_ n2_ n3_; (try clear hb); (try clear hk); (try clear hi))))
   go_meet
   case rel => exact ⟨_, (true), (by first | rfl | (simp; done) | (simp [*]; done)), H', ⟨by first | omega | exact Nat.le_refl _⟩, ⟨by (with_reducible repeat (first | apply Kd.V_alloc | apply Kd.V_drewN | apply Kd.V_drew)); exact HO0.out⟩, ⟨by (with_reducible repeat (first | apply Kd.V_alloc | apply Kd.V_drewN | apply Kd.V_drew)); exact HO1_4.out⟩, ⟨by (with_reducible repeat (first | refine zamaa ?_ _ | refine zamac ?_ | refine zamab ?_ _)); exact zamak.out⟩, ⟨by repeat (first | (with_reducible first | exact HB.out | apply zamag | apply zamae | apply zamaf | refine zamad ?_ zaman.out) | exact HB.out)⟩⟩
 case rest =>
  clear HC3
  try clear c1
  try clear p2
  try clear c6
  try clear zamax
  try clear zamay
  try clear zamaz
  try clear zamba
  try clear zambb
  try clear zambc
  try clear zambd
  try clear zambe
  try clear zambf
  try clear zambg
  obtain ⟨kq, zambh, rfl, HA, HJ2, HO_0, HO_246004, zamak, HB⟩ := hcut
  cases kq with
  | zero => exact absurd HA.out (by simp [stowageref13_Put.j0])
  | succ kj2 =>
   have H := HA.out
   clear HA
   simp only [stowageref13_Put.j0] at H
   by_cases c12 : zambh = true
   ·subst c12
    have H1 : (some (([] : List (S36)), 1)) = some (r1, r2) := by rw [if_pos rfl] at H; exact H
    clear H
    have H := H1
    clear H1
    simp only [Option.some.injEq, Prod.mk.injEq] at H
    obtain ⟨rfl, rfl⟩ := H
    go_wp2
    repeat (go_quiet (fail); try go_wp2)
    go_ret2
    exact ⟨_, by first | rfl | (simp [errW_none, errW_some] <;> rfl) | (simp [*, errW_none, errW_some] <;> rfl), by first | exact Kd.S_nil _ _ _ _ _ | exact Kd.N_nil _ _ _ _ _ | exact Kd.V_nil _ _ _ _ _ | exact Kd.Q_nil _ _ _ _ _ | exact Kd.R_nil _ _ _ _ _, by repeat (first | (with_reducible first | exact HB.out | apply zamag | apply zamae | apply zamaf | refine zamad ?_ zaman.out) | exact HB.out)⟩
   ·replace c12 := Bool.eq_false_iff.mpr c12
    subst c12
    have H1 : (stowageref13_Put.l0 kj2 l0 0 a1_0 a1_1 a1_2 a1_3 l1_4) = some (r1, r2) := by rw [if_neg (show ¬ (false = true) by decide)] at H; exact H
    clear H
    have H := H1
    clear H1
    have H' := zamaj H
    clear H
    go_wp2
    repeat (go_quiet (fail); try go_wp2)
    go_loopg [6] kj2 (fun kq v6 w' => ∃ (zamap : Int), v6 = .int .i64 zamap ∧ Aside0 (stowageref13_Put.l0 kq l0 zamap a1_0 a1_1 a1_2 a1_3 l1_4 = some (r1, r2)) ∧ Aside0 (kq ≤ kj2) ∧ Aside0 (Kd.V k36 36 w' w.heap.size (fun k_ => ((P0_ k_ ∨ P1_4_ k_) ∨ w.heap.size ≤ k_) ∧ k_ ≠ zamal) (.slice A0 l0.length c0) l0) ∧ Aside0 (Kd.V k74 74 w' w.heap.size (fun k_ => ((P0_ k_ ∨ P1_4_ k_) ∨ w.heap.size ≤ k_) ∧ k_ ≠ zamal) (.slice A1_4 l1_4.length c1_4) l1_4) ∧ Aside0 (w'.heap[zamal]? = some (.cells #[.int .i64 a1_0, .bool a1_1, .int .i64 a1_2, .string a1_3, (.slice A1_4 l1_4.length c1_4)] 36 (0, 0))) ∧ Aside0 (Below w.heap.size w w'))
    case atStart => exact ⟨(0), (by first | rfl | (simp; done) | (simp [*]; done)), H', ⟨Nat.le_refl _⟩, ⟨by (with_reducible repeat (first | apply Kd.V_alloc | apply Kd.V_drewN | apply Kd.V_drew)); exact HO_0.out⟩, ⟨by (with_reducible repeat (first | apply Kd.V_alloc | apply Kd.V_drewN | apply Kd.V_drew)); exact HO_246004.out⟩, ⟨by (with_reducible repeat (first | refine zamaa ?_ _ | refine zamac ?_ | refine zamab ?_ _)); exact zamak.out⟩, ⟨by repeat (first | (with_reducible first | exact HB.out | apply zamag | apply zamae | apply zamaf | refine zamad ?_ zaman.out) | exact HB.out)⟩⟩
    case round =>
     clear H'
     try clear c1
     try clear p2
     try clear c6
     try clear p6
     try clear c12
     try clear zamax
     try clear zamay
     try clear zamaz
     try clear zamba
     try clear zambb
     try clear zambc
     try clear zambd
     try clear zambe
     try clear zambf
     try clear zambg
     try clear p2
     obtain ⟨zamap, rfl, HA, HK2, HO_0, HO_246004, zamak, HB⟩ := hrel
     cases gk with
     | zero => exact absurd HA.out (by simp [stowageref13_Put.l0])
     | succ k2 =>
      have H := HA.out
      clear HA
      simp only [stowageref13_Put.l0] at H
      by_cases c13 : zamap < (l0.length : Int)
      ·rw [if_pos c13] at H
       have c13b0 : decide (zamap < (l0.length : Int)) = true := decide_eq_true c13
       clear c13
       by_cases c14 : 0 ≤ zamap
       ·rw [if_pos c14] at H
        have c14b0 : decide (0 ≤ zamap) = true := decide_eq_true c14
        clear c14
        by_cases c15 : ((rd_T36 l0 zamap).f0) ≥ a1_0
        ·rw [if_pos c15] at H
         have c15b0 : decide (a1_0 ≤ ((rd_T36 l0 zamap).f0)) = true := decide_eq_true c15
         clear c15
         simp only [Option.some.injEq, Prod.mk.injEq] at H
         obtain ⟨rfl, rfl⟩ := H
         have p248 : 0 ≤ (zamap : Int) := of_decide_eq_true (by first | (with_reducible assumption) | assumption)
         have q248 : zamap < (l0.length : Int) := of_decide_eq_true (by first | (with_reducible assumption) | assumption)
         obtain ⟨ad248, A248_4, c248_4, e248, hx248_0, hx248_1, hx248_2, hx248_3, hx248_4, hl248_4, hi248_4⟩ := at_T36 (Kd.V_reads' HO_0.out).2.2 zamap p248 q248
         cases e248
         obtain ⟨ce248, hce248, hMe248, hcc248⟩ := Kd.V_get HO_0.out z36 zamap p248 (by first | exact q248 | exact of_decide_eq_true (by first | (with_reducible assumption) | assumption) | (have e_ := (Kd.V_reads' HO_0.out).1; omega))
         obtain ⟨ua248_4, uc248_4, rfl, ul248_4, ge248_4⟩ := k36_openF hMe248
         have hv248_4 := hcc248 4 _ rfl
         rw [add_field _ _ 4 (by omega)] at hv248_4
         replace hv248_4 := Option.some.inj (hv248_4.symm.trans hx248_4)
         injection hv248_4 with hva_ hvn_ hvc_
         rw [hva_] at ge248_4
         rw [hvc_] at ul248_4
         have HL248_4 := zamaj (show Kd.V k74 74 _ w.heap.size _ _ ((rd_T36 l0 zamap).f4) from Kd.V_mk ul248_4 ge248_4)
         clear hva_ hvn_ hvc_ ge248_4 ul248_4
         clear hcc248 hce248
         have HR248_4 := zamaj hi248_4
         have HC248_4 := zamaj hl248_4
         clear hi248_4 hl248_4
         replace p248 := eq_true p248
         replace q248 := eq_true q248
         have zambj : wr.cell? ⟨zamal, 0, none⟩ = some (.int .i64 a1_0) := (zamah zamak.out 0).trans rfl
         have zambk : wr.cell? ⟨zamal, 1, none⟩ = some (.bool a1_1) := (zamah zamak.out 1).trans rfl
         have zambl : wr.cell? ⟨zamal, 2, none⟩ = some (.int .i64 a1_2) := (zamah zamak.out 2).trans rfl
         have zambm : wr.cell? ⟨zamal, 3, none⟩ = some (.string a1_3) := (zamah zamak.out 3).trans rfl
         have zambn : wr.cell? ⟨zamal, 4, none⟩ = some (.slice A1_4 l1_4.length c1_4) := (zamah zamak.out 4).trans rfl
         have zambo := zamai zamak.out 0
         have zambp := zamai zamak.out 1
         have zambq := zamai zamak.out 2
         have zambr := zamai zamak.out 3
         have zambs := zamai zamak.out 4
         go_wp2
         repeat (go_quiet (fail); try go_wp2)
         go_ret2
         exact ⟨_, by first | rfl | (simp [errW_none, errW_some] <;> rfl) | (simp [*, errW_none, errW_some] <;> rfl), by first | exact Kd.S_nil _ _ _ _ _ | exact Kd.N_nil _ _ _ _ _ | exact Kd.V_nil _ _ _ _ _ | exact Kd.Q_nil _ _ _ _ _ | exact Kd.R_nil _ _ _ _ _, by repeat (first | (with_reducible first | exact HB.out | apply zamag | apply zamae | apply zamaf | refine zamad ?_ zaman.out) | exact HB.out)⟩
        ·rw [if_neg c15] at H
         have c15b0 : decide (a1_0 ≤ ((rd_T36 l0 zamap).f0)) = false := decide_eq_false c15
         clear c15
         have H' := zamaj H
         clear H
         have p248 : 0 ≤ (zamap : Int) := of_decide_eq_true (by first | (with_reducible assumption) | assumption)
         have q248 : zamap < (l0.length : Int) := of_decide_eq_true (by first | (with_reducible assumption) | assumption)
         obtain ⟨ad248, A248_4, c248_4, e248, hx248_0, hx248_1, hx248_2, hx248_3, hx248_4, hl248_4, hi248_4⟩ := at_T36 (Kd.V_reads' HO_0.out).2.2 zamap p248 q248
         cases e248
         obtain ⟨ce248, hce248, hMe248, hcc248⟩ := Kd.V_get HO_0.out z36 zamap p248 (by first | exact q248 | exact of_decide_eq_true (by first | (with_reducible assumption) | assumption) | (have e_ := (Kd.V_reads' HO_0.out).1; omega))
         obtain ⟨ua248_4, uc248_4, rfl, ul248_4, ge248_4⟩ := k36_openF hMe248
         have hv248_4 := hcc248 4 _ rfl
         rw [add_field _ _ 4 (by omega)] at hv248_4
         replace hv248_4 := Option.some.inj (hv248_4.symm.trans hx248_4)
         injection hv248_4 with hva_ hvn_ hvc_
         rw [hva_] at ge248_4
         rw [hvc_] at ul248_4
         have HL248_4 := zamaj (show Kd.V k74 74 _ w.heap.size _ _ ((rd_T36 l0 zamap).f4) from Kd.V_mk ul248_4 ge248_4)
         clear hva_ hvn_ hvc_ ge248_4 ul248_4
         clear hcc248 hce248
         have HR248_4 := zamaj hi248_4
         have HC248_4 := zamaj hl248_4
         clear hi248_4 hl248_4
         replace p248 := eq_true p248
         replace q248 := eq_true q248
         have zambt : wr.cell? ⟨zamal, 0, none⟩ = some (.int .i64 a1_0) := (zamah zamak.out 0).trans rfl
         have zambu : wr.cell? ⟨zamal, 1, none⟩ = some (.bool a1_1) := (zamah zamak.out 1).trans rfl
         have zambv : wr.cell? ⟨zamal, 2, none⟩ = some (.int .i64 a1_2) := (zamah zamak.out 2).trans rfl
         have zambw : wr.cell? ⟨zamal, 3, none⟩ = some (.string a1_3) := (zamah zamak.out 3).trans rfl
         have zambx : wr.cell? ⟨zamal, 4, none⟩ = some (.slice A1_4 l1_4.length c1_4) := (zamah zamak.out 4).trans rfl
         have zamby := zamai zamak.out 0
         have zambz := zamai zamak.out 1
         have zamca := zamai zamak.out 2
         have zamcb := zamai zamak.out 3
         have zamcc := zamai zamak.out 4
         go_wp2
         repeat (go_quiet (fail); try go_wp2)
         go_roundg k2
         case measure => have := HJ2.out; have := HK2.out; omega
         case rel => exact ⟨(wrap64 (zamap + 1)), (by first | rfl | (simp; done) | (simp [*]; done)), H', ⟨by have := HJ2.out; have := HK2.out; omega⟩, ⟨by (with_reducible repeat (first | apply Kd.V_alloc | apply Kd.V_drewN | apply Kd.V_drew)); exact HO_0.out⟩, ⟨by (with_reducible repeat (first | apply Kd.V_alloc | apply Kd.V_drewN | apply Kd.V_drew)); exact HO_246004.out⟩, ⟨by (with_reducible repeat (first | refine zamaa ?_ _ | refine zamac ?_ | refine zamab ?_ _)); exact zamak.out⟩, ⟨by repeat (first | (with_reducible first | exact HB.out | apply zamag | apply zamae | apply zamaf | refine zamad ?_ zaman.out) | exact HB.out)⟩⟩
       ·rw [if_neg c14] at H
        exact absurd H (by simp)
      ·rw [if_neg c13] at H
       have c13b0 : decide (zamap < (l0.length : Int)) = false := decide_eq_false c13
       clear c13
       by_cases c18 : (l0.length : Int) ≥ 32
       ·rw [if_pos c18] at H
        have c18b0 : decide (32 ≤ (l0.length : Int)) = true := decide_eq_true c18
        have c18b1 : decide (32 ≤ l0.length) = true := decide_eq_true (by omega)
        clear c18
        simp only [Option.some.injEq, Prod.mk.injEq] at H
        obtain ⟨rfl, rfl⟩ := H
        go_wp2
        repeat (go_quiet (fail); try go_wp2)
        go_ret2
        exact ⟨_, by first | rfl | (simp [errW_none, errW_some] <;> rfl) | (simp [*, errW_none, errW_some] <;> rfl), by first | exact Kd.S_nil _ _ _ _ _ | exact Kd.N_nil _ _ _ _ _ | exact Kd.V_nil _ _ _ _ _ | exact Kd.Q_nil _ _ _ _ _ | exact Kd.R_nil _ _ _ _ _, by repeat (first | (with_reducible first | exact HB.out | apply zamag | apply zamae | apply zamaf | refine zamad ?_ zaman.out) | exact HB.out)⟩
       ·rw [if_neg c18] at H
        have c18b0 : decide (32 ≤ (l0.length : Int)) = false := decide_eq_false c18
        have c18b1 : decide (32 ≤ l0.length) = false := decide_eq_false (by omega)
        clear c18
        obtain ⟨y249, hy249⟩ : ∃ y_ : List (S36), y_ = (([(⟨a1_0, a1_1, a1_2, a1_3, l1_4⟩ : S36)] : List (S36))) := ⟨_, rfl⟩
        replace H : (if y249.length + l0.length < 2199023255552 then (some ((y249 ++ l0), 0)) else (none)) = some (r1, r2) := by first | (rw [hy249]; with_reducible exact H) | (have H2_ := (Option.bind_some _ _).symm.trans H; rw [hy249]; with_reducible exact H2_) | (have H2_ := (Option.bind_some _ _).symm.trans H; with_reducible exact H2_) | with_reducible exact H | (rw [hy249]; exact H) | exact H
        have Ny249 := zamaj hy249
        clear hy249
        by_cases c19 : y249.length + l0.length < 2199023255552
        ·rw [if_pos c19] at H
         have LMc19 := zamaj c19
         clear c19
         obtain ⟨y252, hy252⟩ : ∃ y_ : List (S36), y_ = (y249 ++ l0) := ⟨_, rfl⟩
         replace H : (some (y252, 0)) = some (r1, r2) := by first | (rw [hy252]; with_reducible exact H) | (have H2_ := (Option.bind_some _ _).symm.trans H; rw [hy252]; with_reducible exact H2_) | (have H2_ := (Option.bind_some _ _).symm.trans H; with_reducible exact H2_) | with_reducible exact H | (rw [hy252]; exact H) | exact H
         have Ny252 := zamaj hy252
         clear hy252
         simp only [Option.some.injEq, Prod.mk.injEq] at H
         obtain ⟨rfl, rfl⟩ := H
         have zamcd : wr.cell? ⟨zamal, 0, none⟩ = some (.int .i64 a1_0) := (zamah zamak.out 0).trans rfl
         have zamce : wr.cell? ⟨zamal, 1, none⟩ = some (.bool a1_1) := (zamah zamak.out 1).trans rfl
         have zamcf : wr.cell? ⟨zamal, 2, none⟩ = some (.int .i64 a1_2) := (zamah zamak.out 2).trans rfl
         have zamcg : wr.cell? ⟨zamal, 3, none⟩ = some (.string a1_3) := (zamah zamak.out 3).trans rfl
         have zamch : wr.cell? ⟨zamal, 4, none⟩ = some (.slice A1_4 l1_4.length c1_4) := (zamah zamak.out 4).trans rfl
         have zamci := zamai zamak.out 0
         have zamcj := zamai zamak.out 1
         have zamck := zamai zamak.out 2
         have zamcl := zamai zamak.out 3
         have zamcm := zamai zamak.out 4
         go_wp2_with (first | ((with_reducible refine gate_dst (N := 33) rfl ?_); refine Kd.N_lit k36 _ 36 ?hg (N' := 33) ?hd (xs := ([(⟨a1_0, a1_1, a1_2, a1_3, l1_4⟩ : S36)] : List (S36))) (inner := [.int .i64 a1_0, .bool a1_1, .int .i64 a1_2, .string a1_3, .slice A1_4 l1_4.length c1_4]) (ok := (fun k_ => ((P0_ k_ ∨ P1_4_ k_) ∨ w.heap.size ≤ k_) ∧ k_ ≠ zamal)) (okp := (fun k_ => ((P0_ k_ ∨ P1_4_ k_) ∨ w.heap.size ≤ k_) ∧ k_ ≠ zamal)) ?hr ?hp (fun _ hk => hk) ((show ∀ k_, wr.heap.size ≤ k_ → (fun k_ => ((P0_ k_ ∨ P1_4_ k_) ∨ w.heap.size ≤ k_) ∧ k_ ≠ zamal) k_ from fun k_ hk => ⟨(.inr (Nat.le_trans (below_size (by repeat (first | (with_reducible first | exact HB.out | apply zamag | apply zamae | apply zamaf | refine zamad ?_ zaman.out) | exact HB.out))) hk)), Kd.freshB (g := zamal) (o := .cells #[.int .i64 a1_0, .bool a1_1, .int .i64 a1_2, .string a1_3, .slice A1_4 l1_4.length c1_4] 36 (0, 0)) (by (with_reducible repeat (first | refine zamaa ?_ _ | refine zamac ?_ | refine zamab ?_ _)); exact zamak.out) k_ hk⟩) _ (Nat.le_refl _)) (Below.refl _ _) (Nat.le_refl _) (by simp) ?_; (case hd => rfl); (case hg => rfl); (case hr => first | (go_simp; done) | (go_simp; rfl)); (case hp => exact (Reps.c5 (show Kd.FK k36 _ _ (⟨a1_0, a1_1, a1_2, a1_3, l1_4⟩ : S36) [.int .i64 a1_0, .bool a1_1, .int .i64 a1_2, .string a1_3, .slice A1_4 l1_4.length c1_4] from (k36_mkF _ _ (⟨a1_0, a1_1, a1_2, a1_3, l1_4⟩ : S36) (Kd.V_reads' (Kd.V_mono (ok' := (fun k_ => ((P0_ k_ ∨ P1_4_ k_) ∨ w.heap.size ≤ k_) ∧ k_ ≠ zamal)) (HO_246004.out) (fun k_ hk => ⟨hk.1, hk.2⟩))).2.1 (Kd.V_F (Kd.V_mono (ok' := (fun k_ => ((P0_ k_ ∨ P1_4_ k_) ∨ w.heap.size ≤ k_) ∧ k_ ≠ zamal)) (HO_246004.out) (fun k_ hk => ⟨hk.1, hk.2⟩))))) (Reps.none _ _))); intro v250 w21 ho22 hb hg_ hnew_; clear hg_ hnew_; (first | rw [← Ny249.out] at ho22 | (simp only [Int.reduceToNat] at ho22; rw [← Ny249.out] at ho22)); have n0_ := zamaj (Kd.V_elder' (by (with_reducible repeat (first | apply Kd.V_alloc | apply Kd.V_drewN | apply Kd.V_drew)); exact HO_0.out) (by first | exact Kd.N_base ho22 | exact Kd.N_base (Kd.S_N ho22)) hb); have n1_ := zamaj (Kd.V_elder' (by (with_reducible repeat (first | apply Kd.V_alloc | apply Kd.V_drewN | apply Kd.V_drew)); exact HO_246004.out) (by first | exact Kd.N_base ho22 | exact Kd.N_base (Kd.S_N ho22)) hb); have n2_ := zamaj (Kd.N_lower ho22 (below_size (by repeat (first | (with_reducible first | exact HB.out | apply zamag | apply zamae | apply zamaf | refine zamad ?_ zaman.out) | exact HB.out)))); have n3_ := zamaj (blk_below (g := zamal) (o := .cells #[.int .i64 a1_0, .bool a1_1, .int .i64 a1_2, .string a1_3, .slice A1_4 l1_4.length c1_4] 36 (0, 0)) (by (with_reducible repeat (first | refine zamaa ?_ _ | refine zamac ?_ | refine zamab ?_ _)); exact zamak.out) hb); have n4_ := zamaj (below_step (by repeat (first | (with_reducible first | exact HB.out | apply zamag | apply zamae | apply zamaf | refine zamad ?_ zaman.out) | exact HB.out)) hb); clear HO_0; clear HO_246004; clear zamak; clear HB; have HO_0 := n0_; have HO_246004 := n1_; have HO251 := n2_; have zamak := n3_; have HB := n4_; clear n0_ n1_ n2_ n3_ n4_; clear hb ho22) | ((with_reducible refine gate_builtin (b := .append) (xs := #[.tmp 33, .tmp 34]) rfl ?_); at_builtin; refine Kd.N_append_rows k36 (w0 := w) w.heap.size rfl (.tmp 33) (.tmp 34) 42 36 (.agg #[(.int .i64 0), (.bool false), (.int .i64 0), (.string ⟨#[]⟩), (.slice none 0 0)]) 64 rfl Try.underlying42 info36 rfl (by decide) (by omega) v250 y249 l0 _ _ _ (fun k_ => ((P0_ k_ ∨ P1_4_ k_) ∨ w.heap.size ≤ k_) ∧ k_ ≠ zamal) (fun k_ => ((fun k_ => ((P0_ k_ ∨ P1_4_ k_) ∨ w.heap.size ≤ k_) ∧ k_ ≠ zamal)) k_ ∧ some k_ ≠ (v250 : Value).ownBlock) rfl rfl ?aO ?aR (fun _ hk => hk) ?aF ?aB ?aS ?aL ?_; (case aR => exact (by skip; exact Kd.V_F (Kd.V_mono (ok' := (fun k_ => ((fun k_ => ((P0_ k_ ∨ P1_4_ k_) ∨ w.heap.size ≤ k_) ∧ k_ ≠ zamal)) k_ ∧ some k_ ≠ (v250 : Value).ownBlock)) (HO_0.out) (fun k_ hk => ⟨⟨hk.1.1, hk.1.2⟩, hk.2⟩)))); (case aB => exact (by repeat (first | (with_reducible first | exact HB.out | apply zamag | apply zamae | apply zamaf | refine zamad ?_ zaman.out) | exact HB.out))); (case aF => exact (fun k_ hk => ⟨(.inr (Nat.le_trans (below_size (by repeat (first | (with_reducible first | exact HB.out | apply zamag | apply zamae | apply zamaf | refine zamad ?_ zaman.out) | exact HB.out))) hk)), Kd.freshB (g := zamal) (o := .cells #[.int .i64 a1_0, .bool a1_1, .int .i64 a1_2, .string a1_3, .slice A1_4 l1_4.length c1_4] 36 (0, 0)) (by (with_reducible repeat (first | refine zamaa ?_ _ | refine zamac ?_ | refine zamab ?_ _)); exact zamak.out) k_ hk⟩)); (case aO => exact (by (with_reducible repeat (first | apply Kd.N_alloc | apply Kd.N_drewN | apply Kd.N_drew)); exact HO251.out)); (case aS => exact (below_size (by repeat (first | (with_reducible first | exact HB.out | apply zamag | apply zamae | apply zamaf | refine zamad ?_ zaman.out) | exact HB.out)))); (case aL => have := LMc19.out; omega); intro v253 w23 ho hb hg hat; rw [← Ny252.out] at ho; have n0_ := zamaj (Kd.V_afterv (ok := (fun k_ => ((P0_ k_ ∨ P1_4_ k_) ∨ w.heap.size ≤ k_) ∧ k_ ≠ zamal)) (by (with_reducible repeat (first | apply Kd.V_alloc | apply Kd.V_drewN | apply Kd.V_drew)); exact HO_0.out) hg hat); have n1_ := zamaj (Kd.V_afterv (ok := (fun k_ => ((P0_ k_ ∨ P1_4_ k_) ∨ w.heap.size ≤ k_) ∧ k_ ≠ zamal)) (by (with_reducible repeat (first | apply Kd.V_alloc | apply Kd.V_drewN | apply Kd.V_drew)); exact HO_246004.out) hg hat); have n2_ := zamaj (blk_grown (g := zamal) (o := .cells #[.int .i64 a1_0, .bool a1_1, .int .i64 a1_2, .string a1_3, .slice A1_4 l1_4.length c1_4] 36 (0, 0)) (by (with_reducible repeat (first | refine zamaa ?_ _ | refine zamac ?_ | refine zamab ?_ _)); exact zamak.out) hg (Kd.N_away HO251.out (fun _ hk => hk.2))); have n3_ := zamaj (hb); have n4_ := zamaj (ho); clear HO_0; clear HO_246004; clear zamak; clear HB; clear HO251; have HO_0 := n0_; have HO_246004 := n1_; have zamak := n2_; have HB := n3_; have HO254 := n4_; clear n0_ n1_ n2_ n3_ n4_; clear ho hb hg hat))
         repeat (go_quiet (first | ((with_reducible refine gate_dst (N := 33) rfl ?_); refine Kd.N_lit k36 _ 36 ?hg (N' := 33) ?hd (xs := ([(⟨a1_0, a1_1, a1_2, a1_3, l1_4⟩ : S36)] : List (S36))) (inner := [.int .i64 a1_0, .bool a1_1, .int .i64 a1_2, .string a1_3, .slice A1_4 l1_4.length c1_4]) (ok := (fun k_ => ((P0_ k_ ∨ P1_4_ k_) ∨ w.heap.size ≤ k_) ∧ k_ ≠ zamal)) (okp := (fun k_ => ((P0_ k_ ∨ P1_4_ k_) ∨ w.heap.size ≤ k_) ∧ k_ ≠ zamal)) ?hr ?hp (fun _ hk => hk) ((show ∀ k_, wr.heap.size ≤ k_ → (fun k_ => ((P0_ k_ ∨ P1_4_ k_) ∨ w.heap.size ≤ k_) ∧ k_ ≠ zamal) k_ from fun k_ hk => ⟨(.inr (Nat.le_trans (below_size (by repeat (first | (with_reducible first | exact HB.out | apply zamag | apply zamae | apply zamaf | refine zamad ?_ zaman.out) | exact HB.out))) hk)), Kd.freshB (g := zamal) (o := .cells #[.int .i64 a1_0, .bool a1_1, .int .i64 a1_2, .string a1_3, .slice A1_4 l1_4.length c1_4] 36 (0, 0)) (by (with_reducible repeat (first | refine zamaa ?_ _ | refine zamac ?_ | refine zamab ?_ _)); exact zamak.out) k_ hk⟩) _ (Nat.le_refl _)) (Below.refl _ _) (Nat.le_refl _) (by simp) ?_; (case hd => rfl); (case hg => rfl); (case hr => first | (go_simp; done) | (go_simp; rfl)); (case hp => exact (Reps.c5 (show Kd.FK k36 _ _ (⟨a1_0, a1_1, a1_2, a1_3, l1_4⟩ : S36) [.int .i64 a1_0, .bool a1_1, .int .i64 a1_2, .string a1_3, .slice A1_4 l1_4.length c1_4] from (k36_mkF _ _ (⟨a1_0, a1_1, a1_2, a1_3, l1_4⟩ : S36) (Kd.V_reads' (Kd.V_mono (ok' := (fun k_ => ((P0_ k_ ∨ P1_4_ k_) ∨ w.heap.size ≤ k_) ∧ k_ ≠ zamal)) (HO_246004.out) (fun k_ hk => ⟨hk.1, hk.2⟩))).2.1 (Kd.V_F (Kd.V_mono (ok' := (fun k_ => ((P0_ k_ ∨ P1_4_ k_) ∨ w.heap.size ≤ k_) ∧ k_ ≠ zamal)) (HO_246004.out) (fun k_ hk => ⟨hk.1, hk.2⟩))))) (Reps.none _ _))); intro v250 w21 ho22 hb hg_ hnew_; clear hg_ hnew_; (first | rw [← Ny249.out] at ho22 | (simp only [Int.reduceToNat] at ho22; rw [← Ny249.out] at ho22)); have n0_ := zamaj (Kd.V_elder' (by (with_reducible repeat (first | apply Kd.V_alloc | apply Kd.V_drewN | apply Kd.V_drew)); exact HO_0.out) (by first | exact Kd.N_base ho22 | exact Kd.N_base (Kd.S_N ho22)) hb); have n1_ := zamaj (Kd.V_elder' (by (with_reducible repeat (first | apply Kd.V_alloc | apply Kd.V_drewN | apply Kd.V_drew)); exact HO_246004.out) (by first | exact Kd.N_base ho22 | exact Kd.N_base (Kd.S_N ho22)) hb); have n2_ := zamaj (Kd.N_lower ho22 (below_size (by repeat (first | (with_reducible first | exact HB.out | apply zamag | apply zamae | apply zamaf | refine zamad ?_ zaman.out) | exact HB.out)))); have n3_ := zamaj (blk_below (g := zamal) (o := .cells #[.int .i64 a1_0, .bool a1_1, .int .i64 a1_2, .string a1_3, .slice A1_4 l1_4.length c1_4] 36 (0, 0)) (by (with_reducible repeat (first | refine zamaa ?_ _ | refine zamac ?_ | refine zamab ?_ _)); exact zamak.out) hb); have n4_ := zamaj (below_step (by repeat (first | (with_reducible first | exact HB.out | apply zamag | apply zamae | apply zamaf | refine zamad ?_ zaman.out) | exact HB.out)) hb); clear HO_0; clear HO_246004; clear zamak; clear HB; have HO_0 := n0_; have HO_246004 := n1_; have HO251 := n2_; have zamak := n3_; have HB := n4_; clear n0_ n1_ n2_ n3_ n4_; clear hb ho22) | ((with_reducible refine gate_builtin (b := .append) (xs := #[.tmp 33, .tmp 34]) rfl ?_); at_builtin; refine Kd.N_append_rows k36 (w0 := w) w.heap.size rfl (.tmp 33) (.tmp 34) 42 36 (.agg #[(.int .i64 0), (.bool false), (.int .i64 0), (.string ⟨#[]⟩), (.slice none 0 0)]) 64 rfl Try.underlying42 info36 rfl (by decide) (by omega) v250 y249 l0 _ _ _ (fun k_ => ((P0_ k_ ∨ P1_4_ k_) ∨ w.heap.size ≤ k_) ∧ k_ ≠ zamal) (fun k_ => ((fun k_ => ((P0_ k_ ∨ P1_4_ k_) ∨ w.heap.size ≤ k_) ∧ k_ ≠ zamal)) k_ ∧ some k_ ≠ (v250 : Value).ownBlock) rfl rfl ?aO ?aR (fun _ hk => hk) ?aF ?aB ?aS ?aL ?_; (case aR => exact (by skip; exact Kd.V_F (Kd.V_mono (ok' := (fun k_ => ((fun k_ => ((P0_ k_ ∨ P1_4_ k_) ∨ w.heap.size ≤ k_) ∧ k_ ≠ zamal)) k_ ∧ some k_ ≠ (v250 : Value).ownBlock)) (HO_0.out) (fun k_ hk => ⟨⟨hk.1.1, hk.1.2⟩, hk.2⟩)))); (case aB => exact (by repeat (first | (with_reducible first | exact HB.out | apply zamag | apply zamae | apply zamaf | refine zamad ?_ zaman.out) | exact HB.out))); (case aF => exact (fun k_ hk => ⟨(.inr (Nat.le_trans (below_size (by repeat (first | (with_reducible first | exact HB.out | apply zamag | apply zamae | apply zamaf | refine zamad ?_ zaman.out) | exact HB.out))) hk)), Kd.freshB (g := zamal) (o := .cells #[.int .i64 a1_0, .bool a1_1, .int .i64 a1_2, .string a1_3, .slice A1_4 l1_4.length c1_4] 36 (0, 0)) (by (with_reducible repeat (first | refine zamaa ?_ _ | refine zamac ?_ | refine zamab ?_ _)); exact zamak.out) k_ hk⟩)); (case aO => exact (by (with_reducible repeat (first | apply Kd.N_alloc | apply Kd.N_drewN | apply Kd.N_drew)); exact HO251.out)); (case aS => exact (below_size (by repeat (first | (with_reducible first | exact HB.out | apply zamag | apply zamae | apply zamaf | refine zamad ?_ zaman.out) | exact HB.out)))); (case aL => have := LMc19.out; omega); intro v253 w23 ho hb hg hat; rw [← Ny252.out] at ho; have n0_ := zamaj (Kd.V_afterv (ok := (fun k_ => ((P0_ k_ ∨ P1_4_ k_) ∨ w.heap.size ≤ k_) ∧ k_ ≠ zamal)) (by (with_reducible repeat (first | apply Kd.V_alloc | apply Kd.V_drewN | apply Kd.V_drew)); exact HO_0.out) hg hat); have n1_ := zamaj (Kd.V_afterv (ok := (fun k_ => ((P0_ k_ ∨ P1_4_ k_) ∨ w.heap.size ≤ k_) ∧ k_ ≠ zamal)) (by (with_reducible repeat (first | apply Kd.V_alloc | apply Kd.V_drewN | apply Kd.V_drew)); exact HO_246004.out) hg hat); have n2_ := zamaj (blk_grown (g := zamal) (o := .cells #[.int .i64 a1_0, .bool a1_1, .int .i64 a1_2, .string a1_3, .slice A1_4 l1_4.length c1_4] 36 (0, 0)) (by (with_reducible repeat (first | refine zamaa ?_ _ | refine zamac ?_ | refine zamab ?_ _)); exact zamak.out) hg (Kd.N_away HO251.out (fun _ hk => hk.2))); have n3_ := zamaj (hb); have n4_ := zamaj (ho); clear HO_0; clear HO_246004; clear zamak; clear HB; clear HO251; have HO_0 := n0_; have HO_246004 := n1_; have zamak := n2_; have HB := n3_; have HO254 := n4_; clear n0_ n1_ n2_ n3_ n4_; clear ho hb hg hat)); try go_wp2_with (first | ((with_reducible refine gate_dst (N := 33) rfl ?_); refine Kd.N_lit k36 _ 36 ?hg (N' := 33) ?hd (xs := ([(⟨a1_0, a1_1, a1_2, a1_3, l1_4⟩ : S36)] : List (S36))) (inner := [.int .i64 a1_0, .bool a1_1, .int .i64 a1_2, .string a1_3, .slice A1_4 l1_4.length c1_4]) (ok := (fun k_ => ((P0_ k_ ∨ P1_4_ k_) ∨ w.heap.size ≤ k_) ∧ k_ ≠ zamal)) (okp := (fun k_ => ((P0_ k_ ∨ P1_4_ k_) ∨ w.heap.size ≤ k_) ∧ k_ ≠ zamal)) ?hr ?hp (fun _ hk => hk) ((show ∀ k_, wr.heap.size ≤ k_ → (fun k_ => ((P0_ k_ ∨ P1_4_ k_) ∨ w.heap.size ≤ k_) ∧ k_ ≠ zamal) k_ from fun k_ hk => ⟨(.inr (Nat.le_trans (below_size (by repeat (first | (with_reducible first | exact HB.out | apply zamag | apply zamae | apply zamaf | refine zamad ?_ zaman.out) | exact HB.out))) hk)), Kd.freshB (g := zamal) (o := .cells #[.int .i64 a1_0, .bool a1_1, .int .i64 a1_2, .string a1_3, .slice A1_4 l1_4.length c1_4] 36 (0, 0)) (by (with_reducible repeat (first | refine zamaa ?_ _ | refine zamac ?_ | refine zamab ?_ _)); exact zamak.out) k_ hk⟩) _ (Nat.le_refl _)) (Below.refl _ _) (Nat.le_refl _) (by simp) ?_; (case hd => rfl); (case hg => rfl); (case hr => first | (go_simp; done) | (go_simp; rfl)); (case hp => exact (Reps.c5 (show Kd.FK k36 _ _ (⟨a1_0, a1_1, a1_2, a1_3, l1_4⟩ : S36) [.int .i64 a1_0, .bool a1_1, .int .i64 a1_2, .string a1_3, .slice A1_4 l1_4.length c1_4] from (k36_mkF _ _ (⟨a1_0, a1_1, a1_2, a1_3, l1_4⟩ : S36) (Kd.V_reads' (Kd.V_mono (ok' := (fun k_ => ((P0_ k_ ∨ P1_4_ k_) ∨ w.heap.size ≤ k_) ∧ k_ ≠ zamal)) (HO_246004.out) (fun k_ hk => ⟨hk.1, hk.2⟩))).2.1 (Kd.V_F (Kd.V_mono (ok' := (fun k_ => ((P0_ k_ ∨ P1_4_ k_) ∨ w.heap.size ≤ k_) ∧ k_ ≠ zamal)) (HO_246004.out) (fun k_ hk => ⟨hk.1, hk.2⟩))))) (Reps.none _ _))); intro v250 w21 ho22 hb hg_ hnew_; clear hg_ hnew_; (first | rw [← Ny249.out] at ho22 | (simp only [Int.reduceToNat] at ho22; rw [← Ny249.out] at ho22)); have n0_ := zamaj (Kd.V_elder' (by (with_reducible repeat (first | apply Kd.V_alloc | apply Kd.V_drewN | apply Kd.V_drew)); exact HO_0.out) (by first | exact Kd.N_base ho22 | exact Kd.N_base (Kd.S_N ho22)) hb); have n1_ := zamaj (Kd.V_elder' (by (with_reducible repeat (first | apply Kd.V_alloc | apply Kd.V_drewN | apply Kd.V_drew)); exact HO_246004.out) (by first | exact Kd.N_base ho22 | exact Kd.N_base (Kd.S_N ho22)) hb); have n2_ := zamaj (Kd.N_lower ho22 (below_size (by repeat (first | (with_reducible first | exact HB.out | apply zamag | apply zamae | apply zamaf | refine zamad ?_ zaman.out) | exact HB.out)))); have n3_ := zamaj (blk_below (g := zamal) (o := .cells #[.int .i64 a1_0, .bool a1_1, .int .i64 a1_2, .string a1_3, .slice A1_4 l1_4.length c1_4] 36 (0, 0)) (by (with_reducible repeat (first | refine zamaa ?_ _ | refine zamac ?_ | refine zamab ?_ _)); exact zamak.out) hb); have n4_ := zamaj (below_step (by repeat (first | (with_reducible first | exact HB.out | apply zamag | apply zamae | apply zamaf | refine zamad ?_ zaman.out) | exact HB.out)) hb); clear HO_0; clear HO_246004; clear zamak; clear HB; have HO_0 := n0_; have HO_246004 := n1_; have HO251 := n2_; have zamak := n3_; have HB := n4_; clear n0_ n1_ n2_ n3_ n4_; clear hb ho22) | ((with_reducible refine gate_builtin (b := .append) (xs := #[.tmp 33, .tmp 34]) rfl ?_); at_builtin; refine Kd.N_append_rows k36 (w0 := w) w.heap.size rfl (.tmp 33) (.tmp 34) 42 36 (.agg #[(.int .i64 0), (.bool false), (.int .i64 0), (.string ⟨#[]⟩), (.slice none 0 0)]) 64 rfl Try.underlying42 info36 rfl (by decide) (by omega) v250 y249 l0 _ _ _ (fun k_ => ((P0_ k_ ∨ P1_4_ k_) ∨ w.heap.size ≤ k_) ∧ k_ ≠ zamal) (fun k_ => ((fun k_ => ((P0_ k_ ∨ P1_4_ k_) ∨ w.heap.size ≤ k_) ∧ k_ ≠ zamal)) k_ ∧ some k_ ≠ (v250 : Value).ownBlock) rfl rfl ?aO ?aR (fun _ hk => hk) ?aF ?aB ?aS ?aL ?_; (case aR => exact (by skip; exact Kd.V_F (Kd.V_mono (ok' := (fun k_ => ((fun k_ => ((P0_ k_ ∨ P1_4_ k_) ∨ w.heap.size ≤ k_) ∧ k_ ≠ zamal)) k_ ∧ some k_ ≠ (v250 : Value).ownBlock)) (HO_0.out) (fun k_ hk => ⟨⟨hk.1.1, hk.1.2⟩, hk.2⟩)))); (case aB => exact (by repeat (first | (with_reducible first | exact HB.out | apply zamag | apply zamae | apply zamaf | refine zamad ?_ zaman.out) | exact HB.out))); (case aF => exact (fun k_ hk => ⟨(.inr (Nat.le_trans (below_size (by repeat (first | (with_reducible first | exact HB.out | apply zamag | apply zamae | apply zamaf | refine zamad ?_ zaman.out) | exact HB.out))) hk)), Kd.freshB (g := zamal) (o := .cells #[.int .i64 a1_0, .bool a1_1, .int .i64 a1_2, .string a1_3, .slice A1_4 l1_4.length c1_4] 36 (0, 0)) (by (with_reducible repeat (first | refine zamaa ?_ _ | refine zamac ?_ | refine zamab ?_ _)); exact zamak.out) k_ hk⟩)); (case aO => exact (by (with_reducible repeat (first | apply Kd.N_alloc | apply Kd.N_drewN | apply Kd.N_drew)); exact HO251.out)); (case aS => exact (below_size (by repeat (first | (with_reducible first | exact HB.out | apply zamag | apply zamae | apply zamaf | refine zamad ?_ zaman.out) | exact HB.out)))); (case aL => have := LMc19.out; omega); intro v253 w23 ho hb hg hat; rw [← Ny252.out] at ho; have n0_ := zamaj (Kd.V_afterv (ok := (fun k_ => ((P0_ k_ ∨ P1_4_ k_) ∨ w.heap.size ≤ k_) ∧ k_ ≠ zamal)) (by (with_reducible repeat (first | apply Kd.V_alloc | apply Kd.V_drewN | apply Kd.V_drew)); exact HO_0.out) hg hat); have n1_ := zamaj (Kd.V_afterv (ok := (fun k_ => ((P0_ k_ ∨ P1_4_ k_) ∨ w.heap.size ≤ k_) ∧ k_ ≠ zamal)) (by (with_reducible repeat (first | apply Kd.V_alloc | apply Kd.V_drewN | apply Kd.V_drew)); exact HO_246004.out) hg hat); have n2_ := zamaj (blk_grown (g := zamal) (o := .cells #[.int .i64 a1_0, .bool a1_1, .int .i64 a1_2, .string a1_3, .slice A1_4 l1_4.length c1_4] 36 (0, 0)) (by (with_reducible repeat (first | refine zamaa ?_ _ | refine zamac ?_ | refine zamab ?_ _)); exact zamak.out) hg (Kd.N_away HO251.out (fun _ hk => hk.2))); have n3_ := zamaj (hb); have n4_ := zamaj (ho); clear HO_0; clear HO_246004; clear zamak; clear HB; clear HO251; have HO_0 := n0_; have HO_246004 := n1_; have zamak := n2_; have HB := n3_; have HO254 := n4_; clear n0_ n1_ n2_ n3_ n4_; clear ho hb hg hat)))
         go_ret2
         exact ⟨_, by first | rfl | (simp [errW_none, errW_some] <;> rfl) | (simp [*, errW_none, errW_some] <;> rfl), by (with_reducible repeat (first | apply Kd.N_alloc | apply Kd.N_drewN | apply Kd.N_drew)); exact Kd.N_mono HO254.out (fun _ hk => hk.1), by repeat (first | (with_reducible first | exact HB.out | apply zamag | apply zamae | apply zamaf | refine zamad ?_ zaman.out) | exact HB.out)⟩
        ·rw [if_neg c19] at H
         exact absurd H (by simp)

/-! ### stowagelaw13_Refs: function 18 -/
def stowagelaw13_Refs.l0 : Nat → List (S24) → List (S36) → Int → Option ((List (S36)))
 | 0, _, _, _ => none
 | k + 1, x0, x3, x4 => if x4 < (x0.length : Int) then (if 0 ≤ x4 then ((stowagelaw13_Ref.f k ((rd_T24 x0 x4).f0) ((rd_T24 x0 x4).f1) ((rd_T24 x0 x4).f2) ((rd_T24 x0 x4).f3) ((rd_T24 x0 x4).f4)).bind fun bt256 => (if x3.length < 2199023255552 then (stowagelaw13_Refs.l0 k x0 (x3 ++ [(⟨bt256.1, bt256.2.1, bt256.2.2.1, bt256.2.2.2.1, bt256.2.2.2.2⟩ : S36)]) (wrap64 (x4 + 1))) else (none))) else (none)) else (some x3)
def stowagelaw13_Refs.f (k : Nat) (l0 : List (S24)) : Option ((List (S36))) := stowagelaw13_Refs.l0 k l0 ([] : List (S36)) 0
set_option maxHeartbeats 8000000 in
set_option maxRecDepth 100000 in
theorem stowagelaw13_Refs.calls (k : Nat) (A0 : Option Addr) (c0 : Nat) (l0 : List (S24)) (r : List (S36)) (w : World) (hr0 : Kd.C k24 w A0 l0.length l0) (hc0 : l0.length ≤ c0) (h : stowagelaw13_Refs.f k l0 = some r) :
  Calls Try.prog 18 #[.slice A0 l0.length c0] w fun e w' => ∃ v0_ : Value, e = .returned (v0_) ∧ Kd.S k36 36 w' w.heap.size (fun _ => True) v0_ r ∧ Below w.heap.size w w' := by
 have hu24 := Try.underlying24
 have HR0 := zamaj hr0
 have HC0 := zamaj hc0
 clear hr0 hc0
 have HB := zamaj (Below.refl w.heap.size w)
 have H : (stowagelaw13_Refs.l0 k l0 ([] : List (S36)) 0) = some r := h
 clear h
 have H' := zamaj H
 clear H
 go_enter Try.func18, Try.ntmps18
 go_wp2
 go_loopg [3, 4] k (fun kq v3 v4 w' => ∃ (zamas : List (S36)) (zamao : Int), v4 = .int .i64 zamao ∧ Aside0 (stowagelaw13_Refs.l0 kq l0 zamas zamao = some r) ∧ Aside0 (kq ≤ k) ∧ Aside0 (Kd.S k36 36 w' w.heap.size (fun _ => True) v3 zamas) ∧ Aside0 (Below w.heap.size w w'))
 case atStart => exact ⟨(([] : List (S36))), (0), (by first | rfl | (simp; done) | (simp [*]; done)), H', ⟨Nat.le_refl _⟩, ⟨by first | exact Kd.S_nil _ _ _ _ _ | exact Kd.N_nil _ _ _ _ _ | exact Kd.V_nil _ _ _ _ _ | exact Kd.Q_nil _ _ _ _ _ | exact Kd.R_nil _ _ _ _ _⟩, ⟨by repeat (first | (with_reducible first | exact HB.out | apply zamag | apply zamae | apply zamaf) | exact HB.out)⟩⟩
 case round =>
  clear H'
  try clear c1
  obtain ⟨zamas, zamao, rfl, HA, HK1, HO_3, HB⟩ := hrel
  cases gk with
  | zero => exact absurd HA.out (by simp [stowagelaw13_Refs.l0])
  | succ k1 =>
   have H := HA.out
   clear HA
   simp only [stowagelaw13_Refs.l0] at H
   by_cases c2 : zamao < (l0.length : Int)
   ·rw [if_pos c2] at H
    have c2b0 : decide (zamao < (l0.length : Int)) = true := decide_eq_true c2
    clear c2
    by_cases c3 : 0 ≤ zamao
    ·rw [if_pos c3] at H
     have c3b0 : decide (0 ≤ zamao) = true := decide_eq_true c3
     clear c3
     replace H := Option.bind_eq_some_iff.mp H
     obtain ⟨⟨t256, t257, t258, t259, t260⟩, A40, H⟩ := H
     replace H : (if zamas.length < 2199023255552 then (stowagelaw13_Refs.l0 k1 l0 (zamas ++ [(⟨t256, t257, t258, t259, t260⟩ : S36)]) (wrap64 (zamao + 1))) else (none)) = some r := H
     have A4 := zamaj A40
     clear A40
     by_cases c5 : zamas.length < 2199023255552
     ·rw [if_pos c5] at H
      have LMc5 := zamaj c5
      clear c5
      obtain ⟨y263, hy263⟩ : ∃ y_ : List (S36), y_ = (zamas ++ [(⟨t256, t257, t258, t259, t260⟩ : S36)]) := ⟨_, rfl⟩
      replace H : (stowagelaw13_Refs.l0 k1 l0 y263 (wrap64 (zamao + 1))) = some r := by first | (rw [hy263]; with_reducible exact H) | (have H2_ := (Option.bind_some _ _).symm.trans H; rw [hy263]; with_reducible exact H2_) | (have H2_ := (Option.bind_some _ _).symm.trans H; with_reducible exact H2_) | with_reducible exact H | (rw [hy263]; exact H) | exact H
      have Ny263 := zamaj hy263
      clear hy263
      have H' := zamaj H
      clear H
      have p255 : 0 ≤ (zamao : Int) := of_decide_eq_true (by first | (with_reducible assumption) | assumption)
      have q255 : zamao < (l0.length : Int) := of_decide_eq_true (by first | (with_reducible assumption) | assumption)
      obtain ⟨ad255, A255_4, c255_4, e255, hx255_0, hx255_1, hx255_2, hx255_3, hx255_4, hl255_4, hi255_4⟩ := at_T24 HR0.out zamao p255 q255
      cases e255
      replace hx255_0 := (HB.out.cell (World.block_lt_of_cell? w _ hx255_0)).trans hx255_0
      replace hx255_1 := (HB.out.cell (World.block_lt_of_cell? w _ hx255_1)).trans hx255_1
      replace hx255_2 := (HB.out.cell (World.block_lt_of_cell? w _ hx255_2)).trans hx255_2
      replace hx255_3 := (HB.out.cell (World.block_lt_of_cell? w _ hx255_3)).trans hx255_3
      replace hx255_4 := (HB.out.cell (World.block_lt_of_cell? w _ hx255_4)).trans hx255_4
      have HR255_4 := zamaj hi255_4
      have HC255_4 := zamaj hl255_4
      clear hi255_4 hl255_4
      replace p255 := eq_true p255
      replace q255 := eq_true q255
      go_wp2_with (first | ((with_reducible refine gate_callee (f := 15) rfl ?_); refine goesL_ (some 16) rfl rfl Try.func15 (by kernel_rfl) rfl #[.agg #[.int .i64 ((rd_T24 l0 zamao).f0), .bool ((rd_T24 l0 zamao).f1), .int .i64 ((rd_T24 l0 zamao).f2), .string ((rd_T24 l0 zamao).f3), .slice A255_4 ((rd_T24 l0 zamao).f4).length c255_4]] rfl (by (try simp only [List.map_toArray, List.map_cons, List.map_nil]); first | done | rfl) ?_; (with_reducible refine (stowagelaw13_Ref.calls k1 ((rd_T24 l0 zamao).f0) ((rd_T24 l0 zamao).f1) ((rd_T24 l0 zamao).f2) ((rd_T24 l0 zamao).f3) _ _ ((rd_T24 l0 zamao).f4) t256 t257 t258 t259 t260 _ ?side1 ?side2 A4.out).mono ?_); (case side1 => repeat (first | exact (Kd.C_below HR255_4.out HB.out) | (with_reducible refine Kd.C_alloc ?_ _) | (with_reducible refine Kd.C_drewN ?_ _) | (with_reducible refine Kd.C_drew ?_))); (case side2 => exact HC255_4.out); rintro e w6 ⟨v261, rfl, ho0, hb⟩; refine ⟨_, rfl, ?_⟩; have n0_ := zamaj (Kd.S_elder' (by (with_reducible repeat (first | apply Kd.S_alloc | apply Kd.S_drewN | apply Kd.S_drew)); exact HO_3.out) (Kd.R_base ho0) hb); have n1_ := zamaj (Kd.R_lower ho0 (below_size (by repeat (first | (with_reducible first | exact HB.out | apply zamag | apply zamae | apply zamaf) | exact HB.out)))); have n2_ := zamaj (below_step (by repeat (first | (with_reducible first | exact HB.out | apply zamag | apply zamae | apply zamaf) | exact HB.out)) hb); clear HO_3; clear HB; have HO_3 := n0_; have HO262 := n1_; have HB := n2_; clear n0_ n1_ n2_; (try clear hb); (try clear hk); (try clear hi); (try clear ho0); obtain ⟨Ao8, co8, eo8⟩ := Kd.R_slice HO262.out; subst eo8) | ((with_reducible refine gate_builtin (b := .append) (xs := #[.tmp 11, .tmp 17]) rfl ?_); at_builtin; refine Kd.S_append k36 (w0 := w) w.heap.size rfl (.tmp 11) (.tmp 17) 42 36 (.agg #[(.int .i64 0), (.bool false), (.int .i64 0), (.string ⟨#[]⟩), (.slice none 0 0)]) 64 rfl Try.underlying42 info36 rfl (by decide) (by omega) u3 zamas (⟨t256, t257, t258, t259, t260⟩ : S36) [.int .i64 t256, .bool t257, .int .i64 t258, .string t259, .slice Ao8 t260.length co8] (fun _ => True) (fun k_ => some k_ = (.slice Ao8 t260.length co8 : Value).ownBlock) rfl rfl ?aP (fun k_ hk_ => ((Kd.R_mono (ok' := fun k_ => ((fun _ => True)) k_ ∧ some k_ ≠ (u3 : Value).ownBlock) (Kd.R_apart' (HO262.out) (Kd.S_typed HO_3.out) (by decide)) (fun k_ hk => ⟨trivial, hk.2⟩))).1 k_ hk_.symm) ?aF ?aO ?aB ?aS ?aL ?_; (case aP => exact k36_mkM _ _ _ (⟨t256, t257, t258, t259, t260⟩ : S36) (Kd.R_mono (Kd.R_tight rfl (Kd.R_mono (ok' := fun k_ => ((fun _ => True)) k_ ∧ some k_ ≠ (u3 : Value).ownBlock) (Kd.R_apart' (HO262.out) (Kd.S_typed HO_3.out) (by decide)) (fun k_ hk => ⟨trivial, hk.2⟩))) (fun _ h_ => h_))); (case aB => exact (by repeat (first | (with_reducible first | exact HB.out | apply zamag | apply zamae | apply zamaf) | exact HB.out))); (case aF => exact (fun _ _ => trivial)); (case aO => exact (by (with_reducible repeat (first | apply Kd.S_alloc | apply Kd.S_drewN | apply Kd.S_drew)); exact Kd.S_mono HO_3.out (fun k_ hk => ⟨trivial, fun e_ => hk.2 e_⟩))); (case aS => exact (below_size (by repeat (first | (with_reducible first | exact HB.out | apply zamag | apply zamae | apply zamaf) | exact HB.out)))); (case aL => have := LMc5.out; omega); intro v264 w7 ho hb hg hat; rw [← Ny263.out] at ho; have n0_ := zamaj (hb); have n1_ := zamaj (ho); clear HB; clear HO_3; clear HO262; have HB := n0_; have HO265 := n1_; clear n0_ n1_; clear ho hb hg hat))
      go_roundg k1
      case measure => have := HK1.out; omega
      case rel => exact ⟨(y263), (wrap64 (zamao + 1)), (by first | rfl | (simp; done) | (simp [*]; done)), H', ⟨by have := HK1.out; omega⟩, ⟨by (with_reducible repeat (first | apply Kd.S_alloc | apply Kd.S_drewN | apply Kd.S_drew)); exact HO265.out⟩, ⟨by repeat (first | (with_reducible first | exact HB.out | apply zamag | apply zamae | apply zamaf) | exact HB.out)⟩⟩
     ·rw [if_neg c5] at H
      exact absurd H (by simp)
    ·rw [if_neg c3] at H
     exact absurd H (by simp)
   ·rw [if_neg c2] at H
    have c2b0 : decide (zamao < (l0.length : Int)) = false := decide_eq_false c2
    clear c2
    obtain rfl := Option.some.inj H
    go_wp2
    go_ret
    exact ⟨_, by first | rfl | (simp [errW_none, errW_some] <;> rfl) | (simp [*, errW_none, errW_some] <;> rfl), by (with_reducible repeat (first | apply Kd.S_alloc | apply Kd.S_drewN | apply Kd.S_drew)); exact HO_3.out, by repeat (first | (with_reducible first | exact HB.out | apply zamag | apply zamae | apply zamaf) | exact HB.out)⟩

/-! ### stowageref13_Drop: function 20 -/
def stowageref13_Drop.l0 : Nat → List (S36) → Int → List (S36) → Int → Option ((List (S36)) × Int)
 | 0, _, _, _, _ => none
 | k + 1, x0, x1, x6, x7 => if x7 < (x0.length : Int) then (if 0 ≤ x7 then (if ((rd_T36 x0 x7).f0) = x1 then (stowageref13_Drop.l0 k x0 x1 x6 (wrap64 (x7 + 1))) else (if x6.length < 2199023255552 then (stowageref13_Drop.l0 k x0 x1 (x6 ++ [(⟨(rd_T36 x0 x7).f0, (rd_T36 x0 x7).f1, (rd_T36 x0 x7).f2, (rd_T36 x0 x7).f3, (rd_T36 x0 x7).f4⟩ : S36)]) (wrap64 (x7 + 1))) else (none))) else (none)) else (if (x6.length : Int) = (x0.length : Int) then (some (([] : List (S36)), 4)) else (some (x6, 0)))
def stowageref13_Drop.f (k : Nat) (l0 : List (S36)) (a1 : Int) : Option ((List (S36)) × Int) := (stowageref13_May.f k l0).bind fun t266 => (if t266 = true then (stowageref13_Drop.l0 k l0 a1 ([] : List (S36)) 0) else (some (([] : List (S36)), 1)))
set_option maxHeartbeats 8000000 in
set_option maxRecDepth 100000 in
theorem stowageref13_Drop.calls (k : Nat) (P0_ : Nat → Prop) (A0 : Option Addr) (c0 : Nat) (l0 : List (S36)) (a1 : Int) (r1 : List (S36)) (r2 : Int) (w : World) (hs0 : Kd.V k36 36 w w.heap.size (fun k_ => P0_ k_) (.slice A0 l0.length c0) l0) (h : stowageref13_Drop.f k l0 a1 = some (r1, r2)) :
  Calls Try.prog 20 #[.slice A0 l0.length c0, .int .i64 a1] w fun e w' => ∃ v0_ : Value, e = .returned (.tuple #[v0_, .int .i64 r2]) ∧ Kd.N k36 36 w' w.heap.size (fun k_ => (P0_ k_ ∨ w.heap.size ≤ k_)) v0_ r1 ∧ Below w.heap.size w w' := by
 have hu36 := Try.underlying36
 have HO0 := zamaj (show Kd.V k36 36 w w.heap.size (fun k_ => (P0_ k_ ∨ w.heap.size ≤ k_)) (.slice A0 l0.length c0) l0 from Kd.V_mono hs0 (fun k_ hk => .inl hk))
 have HB := zamaj (Below.refl w.heap.size w)
 have H : ((stowageref13_May.f k l0).bind fun t266 => (if t266 = true then (stowageref13_Drop.l0 k l0 a1 ([] : List (S36)) 0) else (some (([] : List (S36)), 1)))) = some (r1, r2) := h
 clear h
 replace H := Option.bind_eq_some_iff.mp H
 obtain ⟨t266, A30, H⟩ := H
 replace H : (if t266 = true then (stowageref13_Drop.l0 k l0 a1 ([] : List (S36)) 0) else (some (([] : List (S36)), 1))) = some (r1, r2) := H
 have A3 := zamaj A30
 clear A30
 by_cases c4 : t266 = true
 ·subst c4
  have H1 : (stowageref13_Drop.l0 k l0 a1 ([] : List (S36)) 0) = some (r1, r2) := by rw [if_pos rfl] at H; exact H
  clear H
  have H := H1
  clear H1
  have H' := zamaj H
  clear H
  go_enter Try.func20, Try.ntmps20
  go_wp2_with (first | ((with_reducible refine gate_callee (f := 40) rfl ?_); refine goesL_ (some 9) rfl rfl Try.func40 (by kernel_rfl) rfl #[.slice A0 l0.length c0] rfl (by (try simp only [List.map_toArray, List.map_cons, List.map_nil]); first | done | rfl) ?_; (with_reducible refine (stowageref13_May.calls k _ _ l0 true _ ?side1 ?side2 A3.out).mono ?_); (case side1 => repeat (first | exact (Kd.V_reads' HO0.out).2.2 | (with_reducible refine Kd.C_alloc ?_ _) | (with_reducible refine Kd.C_drewN ?_ _) | (with_reducible refine Kd.C_drew ?_))); (case side2 => exact (Kd.V_reads' HO0.out).2.1); rintro e w5 ⟨rfl, hb⟩; refine ⟨_, rfl, ?_⟩; have n0_ := zamaj (Kd.V_below (by (with_reducible repeat (first | apply Kd.V_alloc | apply Kd.V_drewN | apply Kd.V_drew)); exact HO0.out) hb); have n1_ := zamaj (below_step (by repeat (first | (with_reducible first | exact HB.out | apply zamag | apply zamae | apply zamaf) | exact HB.out)) hb); clear HO0; clear HB; have HO0 := n0_; have HB := n1_; clear n0_ n1_; (try clear hb); (try clear hk); (try clear hi)))
  go_loopg [6, 7] k (fun kq v6 v7 w' => ∃ (zamaq : List (S36)) (zamam : Int), v7 = .int .i64 zamam ∧ Aside0 (stowageref13_Drop.l0 kq l0 a1 zamaq zamam = some (r1, r2)) ∧ Aside0 (kq ≤ k) ∧ Aside0 (Kd.V k36 36 w' w.heap.size (fun k_ => (P0_ k_ ∨ w.heap.size ≤ k_) ∧ some k_ ≠ (v6 : Value).ownBlock) (.slice A0 l0.length c0) l0) ∧ Aside0 (Kd.N k36 36 w' w.heap.size (fun k_ => (P0_ k_ ∨ w.heap.size ≤ k_)) v6 zamaq) ∧ Aside0 (Below w.heap.size w w'))
  case atStart => exact ⟨(([] : List (S36))), (0), (by first | rfl | (simp; done) | (simp [*]; done)), H', ⟨Nat.le_refl _⟩, ⟨by (with_reducible repeat (first | apply Kd.V_alloc | apply Kd.V_drewN | apply Kd.V_drew)); exact Kd.V_mono HO0.out (fun _ hk => ⟨hk, (by simp [Value.ownBlock])⟩)⟩, ⟨by first | exact Kd.S_nil _ _ _ _ _ | exact Kd.N_nil _ _ _ _ _ | exact Kd.V_nil _ _ _ _ _ | exact Kd.Q_nil _ _ _ _ _ | exact Kd.R_nil _ _ _ _ _⟩, ⟨by repeat (first | (with_reducible first | exact HB.out | apply zamag | apply zamae | apply zamaf) | exact HB.out)⟩⟩
  case round =>
   clear H'
   try clear c2
   try clear p2
   try clear c4
   obtain ⟨zamaq, zamam, rfl, HA, HK1, HO_0, HO_6, HB⟩ := hrel
   cases gk with
   | zero => exact absurd HA.out (by simp [stowageref13_Drop.l0])
   | succ k1 =>
    have H := HA.out
    clear HA
    simp only [stowageref13_Drop.l0] at H
    by_cases c6 : zamam < (l0.length : Int)
    ·rw [if_pos c6] at H
     have c6b0 : decide (zamam < (l0.length : Int)) = true := decide_eq_true c6
     clear c6
     by_cases c7 : 0 ≤ zamam
     ·rw [if_pos c7] at H
      have c7b0 : decide (0 ≤ zamam) = true := decide_eq_true c7
      clear c7
      by_cases c8 : ((rd_T36 l0 zamam).f0) = a1
      ·rw [if_pos c8] at H
       have c8b0 : (((rd_T36 l0 zamam).f0) == a1) = true := beq_iff_eq.mpr c8
       have c8b1 : (((rd_T36 l0 zamam).f0) != a1) = false := bne_eq_false_iff_eq.mpr c8
       clear c8
       have H' := zamaj H
       clear H
       have p267 : 0 ≤ (zamam : Int) := of_decide_eq_true (by first | (with_reducible assumption) | assumption)
       have q267 : zamam < (l0.length : Int) := of_decide_eq_true (by first | (with_reducible assumption) | assumption)
       obtain ⟨ad267, A267_4, c267_4, e267, hx267_0, hx267_1, hx267_2, hx267_3, hx267_4, hl267_4, hi267_4⟩ := at_T36 (Kd.V_reads' HO_0.out).2.2 zamam p267 q267
       cases e267
       obtain ⟨ce267, hce267, hMe267, hcc267⟩ := Kd.V_get HO_0.out z36 zamam p267 (by first | exact q267 | exact of_decide_eq_true (by first | (with_reducible assumption) | assumption) | (have e_ := (Kd.V_reads' HO_0.out).1; omega))
       obtain ⟨ua267_4, uc267_4, rfl, ul267_4, ge267_4⟩ := k36_openF hMe267
       have hv267_4 := hcc267 4 _ rfl
       rw [add_field _ _ 4 (by omega)] at hv267_4
       replace hv267_4 := Option.some.inj (hv267_4.symm.trans hx267_4)
       injection hv267_4 with hva_ hvn_ hvc_
       rw [hva_] at ge267_4
       rw [hvc_] at ul267_4
       have HL267_4 := zamaj (show Kd.V k74 74 _ w.heap.size _ _ ((rd_T36 l0 zamam).f4) from Kd.V_mk ul267_4 ge267_4)
       clear hva_ hvn_ hvc_ ge267_4 ul267_4
       clear hcc267 hce267
       have HR267_4 := zamaj hi267_4
       have HC267_4 := zamaj hl267_4
       clear hi267_4 hl267_4
       replace p267 := eq_true p267
       replace q267 := eq_true q267
       go_wp2
       go_roundg k1
       case measure => have := HK1.out; omega
       case rel => exact ⟨(zamaq), (wrap64 (zamam + 1)), (by first | rfl | (simp; done) | (simp [*]; done)), H', ⟨by have := HK1.out; omega⟩, ⟨by (with_reducible repeat (first | apply Kd.V_alloc | apply Kd.V_drewN | apply Kd.V_drew)); exact HO_0.out⟩, ⟨by (with_reducible repeat (first | apply Kd.N_alloc | apply Kd.N_drewN | apply Kd.N_drew)); exact HO_6.out⟩, ⟨by repeat (first | (with_reducible first | exact HB.out | apply zamag | apply zamae | apply zamaf) | exact HB.out)⟩⟩
      ·rw [if_neg c8] at H
       have c8b0 : (((rd_T36 l0 zamam).f0) == a1) = false := beq_eq_false_iff_ne.mpr c8
       have c8b1 : (((rd_T36 l0 zamam).f0) != a1) = true := bne_iff_ne.mpr c8
       by_cases c9 : zamaq.length < 2199023255552
       ·rw [if_pos c9] at H
        have LMc9 := zamaj c9
        clear c9
        obtain ⟨y269, hy269⟩ : ∃ y_ : List (S36), y_ = (zamaq ++ [(⟨(rd_T36 l0 zamam).f0, (rd_T36 l0 zamam).f1, (rd_T36 l0 zamam).f2, (rd_T36 l0 zamam).f3, (rd_T36 l0 zamam).f4⟩ : S36)]) := ⟨_, rfl⟩
        replace H : (stowageref13_Drop.l0 k1 l0 a1 y269 (wrap64 (zamam + 1))) = some (r1, r2) := by first | (rw [hy269]; with_reducible exact H) | (have H2_ := (Option.bind_some _ _).symm.trans H; rw [hy269]; with_reducible exact H2_) | (have H2_ := (Option.bind_some _ _).symm.trans H; with_reducible exact H2_) | with_reducible exact H | (rw [hy269]; exact H) | exact H
        have Ny269 := zamaj hy269
        clear hy269
        have H' := zamaj H
        clear H
        have p267 : 0 ≤ (zamam : Int) := of_decide_eq_true (by first | (with_reducible assumption) | assumption)
        have q267 : zamam < (l0.length : Int) := of_decide_eq_true (by first | (with_reducible assumption) | assumption)
        obtain ⟨ad267, A267_4, c267_4, e267, hx267_0, hx267_1, hx267_2, hx267_3, hx267_4, hl267_4, hi267_4⟩ := at_T36 (Kd.V_reads' HO_0.out).2.2 zamam p267 q267
        cases e267
        obtain ⟨ce267, hce267, hMe267, hcc267⟩ := Kd.V_get HO_0.out z36 zamam p267 (by first | exact q267 | exact of_decide_eq_true (by first | (with_reducible assumption) | assumption) | (have e_ := (Kd.V_reads' HO_0.out).1; omega))
        obtain ⟨ua267_4, uc267_4, rfl, ul267_4, ge267_4⟩ := k36_openF hMe267
        have hv267_4 := hcc267 4 _ rfl
        rw [add_field _ _ 4 (by omega)] at hv267_4
        replace hv267_4 := Option.some.inj (hv267_4.symm.trans hx267_4)
        injection hv267_4 with hva_ hvn_ hvc_
        rw [hva_] at ge267_4
        rw [hvc_] at ul267_4
        have HL267_4 := zamaj (show Kd.V k74 74 _ w.heap.size _ _ ((rd_T36 l0 zamam).f4) from Kd.V_mk ul267_4 ge267_4)
        clear hva_ hvn_ hvc_ ge267_4 ul267_4
        clear hcc267 hce267
        have HR267_4 := zamaj hi267_4
        have HC267_4 := zamaj hl267_4
        clear hi267_4 hl267_4
        replace p267 := eq_true p267
        replace q267 := eq_true q267
        have p268 : 0 ≤ (zamam : Int) := of_decide_eq_true (by first | (with_reducible assumption) | assumption)
        have q268 : zamam < (l0.length : Int) := of_decide_eq_true (by first | (with_reducible assumption) | assumption)
        obtain ⟨ad268, A268_4, c268_4, e268, hx268_0, hx268_1, hx268_2, hx268_3, hx268_4, hl268_4, hi268_4⟩ := at_T36 (Kd.V_reads' HO_0.out).2.2 zamam p268 q268
        obtain rfl : ad267 = ad268 := (by injection e268)
        obtain ⟨ce268, hce268, hMe268, hcc268⟩ := Kd.V_get HO_0.out z36 zamam p268 (by first | exact q268 | exact of_decide_eq_true (by first | (with_reducible assumption) | assumption) | (have e_ := (Kd.V_reads' HO_0.out).1; omega))
        obtain ⟨ua268_4, uc268_4, rfl, ul268_4, ge268_4⟩ := k36_openF hMe268
        have hv268_4 := hcc268 4 _ rfl
        rw [add_field _ _ 4 (by omega)] at hv268_4
        replace hv268_4 := Option.some.inj (hv268_4.symm.trans hx268_4)
        injection hv268_4 with hva_ hvn_ hvc_
        rw [hva_] at ge268_4
        rw [hvc_] at ul268_4
        have HL268_4 := zamaj (show Kd.V k74 74 _ w.heap.size _ _ ((rd_T36 l0 zamam).f4) from Kd.V_mk ul268_4 ge268_4)
        clear hva_ hvn_ hvc_ ge268_4 ul268_4
        clear hcc268 hce268
        have HR268_4 := zamaj hi268_4
        have HC268_4 := zamaj hl268_4
        clear hi268_4 hl268_4
        replace p268 := eq_true p268
        replace q268 := eq_true q268
        have ea_ := Option.some.inj (hx267_4.symm.trans hx268_4)
        injection ea_ with ea_ en_ ec_
        subst ea_
        subst ec_
        clear en_
        go_wp2_with (first | ((with_reducible refine gate_builtin (b := .append) (xs := #[.tmp 24, .tmp 29]) rfl ?_); at_builtin; refine Kd.N_append k36 (w0 := w) w.heap.size rfl (.tmp 24) (.tmp 29) 42 36 (.agg #[(.int .i64 0), (.bool false), (.int .i64 0), (.string ⟨#[]⟩), (.slice none 0 0)]) 64 rfl Try.underlying42 info36 rfl (by decide) (by omega) u6 zamaq (⟨(rd_T36 l0 zamam).f0, (rd_T36 l0 zamam).f1, (rd_T36 l0 zamam).f2, (rd_T36 l0 zamam).f3, (rd_T36 l0 zamam).f4⟩ : S36) [.int .i64 ((rd_T36 l0 zamam).f0), .bool ((rd_T36 l0 zamam).f1), .int .i64 ((rd_T36 l0 zamam).f2), .string ((rd_T36 l0 zamam).f3), .slice A267_4 ((rd_T36 l0 zamam).f4).length c267_4] (fun k_ => (P0_ k_ ∨ w.heap.size ≤ k_)) (fun k_ => ((fun k_ => (P0_ k_ ∨ w.heap.size ≤ k_))) k_ ∧ some k_ ≠ (u6 : Value).ownBlock) rfl rfl ?aP (fun _ hk => hk) ?aF ?aO ?aB ?aS ?aL ?_; (case aP => exact (k36_mkF _ _ (⟨(rd_T36 l0 zamam).f0, (rd_T36 l0 zamam).f1, (rd_T36 l0 zamam).f2, (rd_T36 l0 zamam).f3, (rd_T36 l0 zamam).f4⟩ : S36) (Kd.V_reads' (Kd.V_mono (ok' := (fun k_ => ((fun k_ => (P0_ k_ ∨ w.heap.size ≤ k_))) k_ ∧ some k_ ≠ (u6 : Value).ownBlock)) (HL268_4.out) (fun k_ hk => ⟨hk.1, hk.2⟩))).2.1 (Kd.V_F (Kd.V_mono (ok' := (fun k_ => ((fun k_ => (P0_ k_ ∨ w.heap.size ≤ k_))) k_ ∧ some k_ ≠ (u6 : Value).ownBlock)) (HL268_4.out) (fun k_ hk => ⟨hk.1, hk.2⟩))))); (case aB => exact (by repeat (first | (with_reducible first | exact HB.out | apply zamag | apply zamae | apply zamaf) | exact HB.out))); (case aF => exact (fun k_ hk => (.inr (Nat.le_trans (below_size (by repeat (first | (with_reducible first | exact HB.out | apply zamag | apply zamae | apply zamaf) | exact HB.out))) hk)))); (case aO => exact (by (with_reducible repeat (first | apply Kd.N_alloc | apply Kd.N_drewN | apply Kd.N_drew)); exact HO_6.out)); (case aS => exact (below_size (by repeat (first | (with_reducible first | exact HB.out | apply zamag | apply zamae | apply zamaf) | exact HB.out)))); (case aL => have := LMc9.out; omega); intro v270 w10 ho hb hg hat; rw [← Ny269.out] at ho; have n0_ := zamaj (Kd.V_afterv (ok := (fun k_ => (P0_ k_ ∨ w.heap.size ≤ k_))) (by (with_reducible repeat (first | apply Kd.V_alloc | apply Kd.V_drewN | apply Kd.V_drew)); exact HO_0.out) hg hat); have n1_ := zamaj (Kd.V_afterv (ok := (fun k_ => (P0_ k_ ∨ w.heap.size ≤ k_))) (by (with_reducible repeat (first | apply Kd.V_alloc | apply Kd.V_drewN | apply Kd.V_drew)); exact HL267_4.out) hg hat); have n2_ := zamaj (Kd.V_afterv (ok := (fun k_ => (P0_ k_ ∨ w.heap.size ≤ k_))) (by (with_reducible repeat (first | apply Kd.V_alloc | apply Kd.V_drewN | apply Kd.V_drew)); exact HL268_4.out) hg hat); have n3_ := zamaj (hb); have n4_ := zamaj (ho); clear HO_0; clear HL267_4; clear HL268_4; clear HB; clear HO_6; have HO_0 := n0_; have HL267_4 := n1_; have HL268_4 := n2_; have HB := n3_; have HO271 := n4_; clear n0_ n1_ n2_ n3_ n4_; clear ho hb hg hat))
        go_roundg k1
        case measure => have := HK1.out; omega
        case rel => exact ⟨(y269), (wrap64 (zamam + 1)), (by first | rfl | (simp; done) | (simp [*]; done)), H', ⟨by have := HK1.out; omega⟩, ⟨by (with_reducible repeat (first | apply Kd.V_alloc | apply Kd.V_drewN | apply Kd.V_drew)); exact HO_0.out⟩, ⟨by (with_reducible repeat (first | apply Kd.N_alloc | apply Kd.N_drewN | apply Kd.N_drew)); exact HO271.out⟩, ⟨by repeat (first | (with_reducible first | exact HB.out | apply zamag | apply zamae | apply zamaf) | exact HB.out)⟩⟩
       ·rw [if_neg c9] at H
        exact absurd H (by simp)
     ·rw [if_neg c7] at H
      exact absurd H (by simp)
    ·rw [if_neg c6] at H
     have c6b0 : decide (zamam < (l0.length : Int)) = false := decide_eq_false c6
     clear c6
     by_cases c11 : (zamaq.length : Int) = (l0.length : Int)
     ·rw [if_pos c11] at H
      have c11b0 : ((zamaq.length : Int) == (l0.length : Int)) = true := beq_iff_eq.mpr c11
      have c11b1 : ((zamaq.length : Int) != (l0.length : Int)) = false := bne_eq_false_iff_eq.mpr c11
      have c11b2 : (zamaq.length == l0.length) = true := by first | simpa using c11 | (simp at c11 ⊢; omega)
      clear c11
      simp only [Option.some.injEq, Prod.mk.injEq] at H
      obtain ⟨rfl, rfl⟩ := H
      obtain ⟨Ao12, co12, eo12⟩ := Kd.N_slice HO_6.out
      subst eo12
      go_wp2
      go_ret2
      exact ⟨_, by first | rfl | (simp [errW_none, errW_some] <;> rfl) | (simp [*, errW_none, errW_some] <;> rfl), by first | exact Kd.S_nil _ _ _ _ _ | exact Kd.N_nil _ _ _ _ _ | exact Kd.V_nil _ _ _ _ _ | exact Kd.Q_nil _ _ _ _ _ | exact Kd.R_nil _ _ _ _ _, by repeat (first | (with_reducible first | exact HB.out | apply zamag | apply zamae | apply zamaf) | exact HB.out)⟩
     ·rw [if_neg c11] at H
      have c11b0 : ((zamaq.length : Int) == (l0.length : Int)) = false := beq_eq_false_iff_ne.mpr c11
      have c11b1 : ((zamaq.length : Int) != (l0.length : Int)) = true := bne_iff_ne.mpr c11
      have c11b2 : (zamaq.length == l0.length) = false := by first | simpa using c11 | (simp at c11 ⊢; omega)
      simp only [Option.some.injEq, Prod.mk.injEq] at H
      obtain ⟨rfl, rfl⟩ := H
      obtain ⟨Ao13, co13, eo13⟩ := Kd.N_slice HO_6.out
      subst eo13
      go_wp2
      go_ret2
      exact ⟨_, by first | rfl | (simp [errW_none, errW_some] <;> rfl) | (simp [*, errW_none, errW_some] <;> rfl), by (with_reducible repeat (first | apply Kd.N_alloc | apply Kd.N_drewN | apply Kd.N_drew)); exact HO_6.out, by repeat (first | (with_reducible first | exact HB.out | apply zamag | apply zamae | apply zamaf) | exact HB.out)⟩
 ·replace c4 := Bool.eq_false_iff.mpr c4
  subst c4
  have H1 : (some (([] : List (S36)), 1)) = some (r1, r2) := by rw [if_neg (show ¬ (false = true) by decide)] at H; exact H
  clear H
  have H := H1
  clear H1
  simp only [Option.some.injEq, Prod.mk.injEq] at H
  obtain ⟨rfl, rfl⟩ := H
  go_enter Try.func20, Try.ntmps20
  go_wp2_with (first | ((with_reducible refine gate_callee (f := 40) rfl ?_); refine goesL_ (some 9) rfl rfl Try.func40 (by kernel_rfl) rfl #[.slice A0 l0.length c0] rfl (by (try simp only [List.map_toArray, List.map_cons, List.map_nil]); first | done | rfl) ?_; (with_reducible refine (stowageref13_May.calls k _ _ l0 false _ ?side1 ?side2 A3.out).mono ?_); (case side1 => repeat (first | exact (Kd.V_reads' HO0.out).2.2 | (with_reducible refine Kd.C_alloc ?_ _) | (with_reducible refine Kd.C_drewN ?_ _) | (with_reducible refine Kd.C_drew ?_))); (case side2 => exact (Kd.V_reads' HO0.out).2.1); rintro e w14 ⟨rfl, hb⟩; refine ⟨_, rfl, ?_⟩; have n0_ := zamaj (Kd.V_below (by (with_reducible repeat (first | apply Kd.V_alloc | apply Kd.V_drewN | apply Kd.V_drew)); exact HO0.out) hb); have n1_ := zamaj (below_step (by repeat (first | (with_reducible first | exact HB.out | apply zamag | apply zamae | apply zamaf) | exact HB.out)) hb); clear HO0; clear HB; have HO0 := n0_; have HB := n1_; clear n0_ n1_; (try clear hb); (try clear hk); (try clear hi)))
  go_ret2
  exact ⟨_, by first | rfl | (simp [errW_none, errW_some] <;> rfl) | (simp [*, errW_none, errW_some] <;> rfl), by first | exact Kd.S_nil _ _ _ _ _ | exact Kd.N_nil _ _ _ _ _ | exact Kd.V_nil _ _ _ _ _ | exact Kd.Q_nil _ _ _ _ _ | exact Kd.R_nil _ _ _ _ _, by repeat (first | (with_reducible first | exact HB.out | apply zamag | apply zamae | apply zamaf) | exact HB.out)⟩

end Go.Proofs.Ytmpnaaegahjfkaa.Q