

/- Written by a program of this session (wip/patch_print.py over the kit's print): functions of the given program as plain Lean functions, and that each call does what its function says, under no further conditions. -/
import Derived.Test.YtmpnaaegahjfkaaQx0
import Derived.Test.YtmpnaaegahjfkaaQx11
import Derived.Test.YtmpnaaegahjfkaaQx20
namespace Go.Proofs.Ytmpnaaegahjfkaa.Q
open Go.RowKit Go.Proofs.YtmpnaaegahjfkaaW.PrintWords Go.Proofs.YtmpnaaegahjfkaaW.PrintLast Go.Proofs.YtmpnaaegahjfkaaW.PrintMore
attribute [local go_sem] max2_int min2_int max_two min_two max_three min_three max_four min_four   -- for this text's walks alone
set_option linter.unusedVariables false
set_option linter.unusedSimpArgs false
attribute [local go_sem] xor_ones_u8 xor_ones_u16 xor_ones_u32 xor_ones_u64 cell_twice frozen_twice
abbrev zavaa := @List.setIfInBounds_toArray
abbrev zavab := @List.set_cons_zero
abbrev zavac := @List.set_cons_succ
abbrev zavad := @World.block_lt_of_cell?
abbrev zavae := @blk_drewN
abbrev zavaf := @blk_alloc
abbrev zavag := @blk_drew
abbrev zavah := @below_set
abbrev zavai := @pw_below_drewN
abbrev zavaj := @below_drew1
abbrev zavak := @below_alloc
abbrev zaval := @blk_cell
abbrev zavam := @blk_frozen
abbrev zavan := @Aside0.mk
theorem zh4 {a b : Prop} (x : Aside0 b) (h : b → a := by intro h_; repeat (first | (with_reducible first | exact h_ | apply IsS107.alloc | apply IsS107.drewN | apply IsS107.drew | apply IsS107.set_0 | apply IsS107.set_1 | apply IsS107.set_2) | exact h_)) : a := h x.out
abbrev zavsq0 : Array Bool := #[false, false, false, false, false, false, false, false, false, false, false]
abbrev zavsq1 : Array Bool := #[true, false, false, false, false, false, false, false, false, false, false]
abbrev zavsq2 : Array Bool := #[true, true, false, false, false, false, false, false, false, false, false]
abbrev zavsq3 : Array Bool := #[true, true, true, false, false, false, false, false, false, false, false]
abbrev zavsq4 : Array Bool := #[true, true, true, false, false, false, true, false, false, false, false]
abbrev zavsq5 : Array Bool := #[true, true, true, true, false, false, true, false, false, false, false]
abbrev zavsq6 : Array Bool := #[true, true, true, true, false, false, true, true, false, false, false]
abbrev zavsq7 : Array Bool := #[true, true, true, true, true, false, true, true, false, false, false]
abbrev zavsq8 : Array Bool := #[true, true, true, true, true, true, true, true, false, false, false]
abbrev zavsq9 : Array Bool := #[true, true, true, true, true, true, true, true, true, false, false]
abbrev zavsq10 : Array Bool := #[true, true, true, true, true, true, true, true, true, true, false]
abbrev zavsq11 : Array Bool := #[true, true, true, true, true, true, true, true, true, true, true]
/-! ### stowageref13_Encode: function 31 -/
def stowageref13_Encode.l0 : Nat → List (S36) → ByteArray → Int → Option (ByteArray × Int)
 | 0, _, _, _ => none
 | k + 1, x0, x4, x5 => if x5 < (x0.length : Int) then (if 0 ≤ x5 then ((stowageref01_Number.f k (IntKind.u64.wrap ((rd_T36 x0 x5).f0))).bind fun t460 => (if x4.size + t460.size ≤ 9223372036854775807 then (if (rd_T36 x0 x5).f1 = true then (if (x4 ++ t460).size + 1 ≤ 9223372036854775807 then (stowageref13_Encode.l0 k x0 ((x4 ++ t460) ++ (⟨#[1]⟩ : ByteArray)) (wrap64 (x5 + 1))) else (none)) else (if (x4 ++ t460).size + 1 ≤ 9223372036854775807 then ((stowageref13_Told.f k ((rd_T36 x0 x5).f4)).bind fun t461 => (if ((x4 ++ t460) ++ (⟨#[0]⟩ : ByteArray)).size + t461.size ≤ 9223372036854775807 then ((stowageref01_Text.f k ((rd_T36 x0 x5).f3)).bind fun t462 => (if (((x4 ++ t460) ++ (⟨#[0]⟩ : ByteArray)) ++ t461).size + t462.size ≤ 9223372036854775807 then (stowageref13_Encode.l0 k x0 ((((x4 ++ t460) ++ (⟨#[0]⟩ : ByteArray)) ++ t461) ++ t462) (wrap64 (x5 + 1))) else (none))) else (none))) else (none))) else (none))) else (none)) else (some (x4, 0))
def stowageref13_Encode.f (k : Nat) (l0 : List (S36)) : Option (ByteArray × Int) := (stowageref13_May.f k l0).bind fun t456 => (if t456 = true then ((stowageref01_Number.f k (IntKind.u64.wrap ((l0.length : Int)))).bind fun t457 => (stowageref13_Encode.l0 k l0 t457 0)) else (some ((⟨#[]⟩ : ByteArray), 1)))
def stowageref13_Encode.T11 : Bool × List (List Nat × List Nat) := (true, [([], []), ([0], [0]), ([], []), ([2], [2]), ([3], [3]), ([1, 4], [1, 4]), ([], []), ([6], [6]), ([7, 4], [7]), ([5, 8], [5, 8]), ([9, 8, 0, 1, 2, 3, 4, 5, 6, 7, 8, 9], [0, 9])])
def stowageref13_Encode.B11 : List Nat := [0, 1, 0, 4, 12, 31, 0, 64, 220, 511, 1023]
theorem stowageref13_Encode.tab11 : rtab .any (opsOf Try.f31 11) = stowageref13_Encode.T11 := by kernel_rfl
theorem stowageref13_Encode.bits11 : waitsOk stowageref13_Encode.T11.2 stowageref13_Encode.B11 = true := by kernel_rfl
set_option maxHeartbeats 8000000 in
set_option maxRecDepth 100000 in
theorem stowageref13_Encode.calls (k : Nat) (A0 : Option Addr) (c0 : Nat) (l0 : List (S36)) (r1 : ByteArray) (r2 : Int) (w : World) (hr0 : Kd.C k36 w A0 l0.length l0) (hc0 : l0.length ≤ c0) (h : stowageref13_Encode.f k l0 = some (r1, r2)) :
  Calls Try.prog 31 #[.slice A0 l0.length c0] w fun e w' => e = .returned (.tuple #[.string r1, .int .i64 r2]) ∧ Below w.heap.size w w' := by
 have hu36 := Try.underlying36
 have HR0 := zavan hr0
 have HC0 := zavan hc0
 clear hr0 hc0
 have HB := zavan (Below.refl w.heap.size w)
 have H : ((stowageref13_May.f k l0).bind fun t456 => (if t456 = true then ((stowageref01_Number.f k (IntKind.u64.wrap ((l0.length : Int)))).bind fun t457 => (stowageref13_Encode.l0 k l0 t457 0)) else (some ((⟨#[]⟩ : ByteArray), 1)))) = some (r1, r2) := h
 clear h
 replace H := Option.bind_eq_some_iff.mp H
 obtain ⟨t456, A20, H⟩ := H
 replace H : (if t456 = true then ((stowageref01_Number.f k (IntKind.u64.wrap ((l0.length : Int)))).bind fun t457 => (stowageref13_Encode.l0 k l0 t457 0)) else (some ((⟨#[]⟩ : ByteArray), 1))) = some (r1, r2) := H
 have A2 := zavan A20
 clear A20
 by_cases c3 : t456 = true
 ·subst c3
  have H1 : ((stowageref01_Number.f k (IntKind.u64.wrap ((l0.length : Int)))).bind fun t457 => (stowageref13_Encode.l0 k l0 t457 0)) = some (r1, r2) := by rw [if_pos rfl] at H; exact H
  clear H
  have H := H1
  clear H1
  replace H := Option.bind_eq_some_iff.mp H
  obtain ⟨t457, A40, H⟩ := H
  replace H : (stowageref13_Encode.l0 k l0 t457 0) = some (r1, r2) := H
  have A4 := zavan A40
  clear A40
  have H' := zavan H
  clear H
  go_enter Try.func31, Try.ntmps31
  go_wp2_with (first | ((with_reducible refine gate_callee (f := 40) rfl ?_); refine goesL_ (some 8) rfl rfl Try.func40 (by kernel_rfl) rfl #[.slice A0 l0.length c0] rfl (by (try simp only [List.map_toArray, List.map_cons, List.map_nil]); first | done | rfl) ?_; (with_reducible refine (stowageref13_May.calls k _ _ l0 true _ ?side1 ?side2 A2.out).mono ?_); (case side1 => repeat (first | exact HR0.out | (with_reducible refine Kd.C_alloc ?_ _) | (with_reducible refine Kd.C_drewN ?_ _) | (with_reducible refine Kd.C_drew ?_))); (case side2 => exact HC0.out); rintro e w5 ⟨rfl, hb⟩; refine ⟨_, rfl, ?_⟩; have n0_ := zavan (below_step (zh0 HB) hb); clear HB; have HB := n0_; clear n0_; (try clear hb); (try clear hk); (try clear hi)) | ((with_reducible refine gate_callee (f := 44) rfl ?_); refine goesL_ (some 13) rfl rfl Try.func44 (by kernel_rfl) rfl #[.int .u64 (IntKind.u64.wrap ((l0.length : Int)))] rfl (by (try simp only [List.map_toArray, List.map_cons, List.map_nil]); first | done | rfl | (rw [IntWalk.u64_in ((l0.length : Int)) (by first | omega | (simp only [decide_eq_false_iff_not, decide_eq_true_eq] at *; omega))]; rfl)) ?_; (with_reducible refine (stowageref01_Number.calls k (IntKind.u64.wrap ((l0.length : Int))) t457 _ A4.out).mono ?_); rintro e w6 ⟨rfl, hb⟩; refine ⟨_, rfl, ?_⟩; have n0_ := zavan (below_step (zh0 HB) hb); clear HB; have HB := n0_; clear n0_; (try clear hb); (try clear hk); (try clear hi)))
  go_loopg [4, 5] k (fun kq v4 v5 w' => ∃ (zavar : ByteArray) (zavap : Int), v4 = .string zavar ∧ v5 = .int .i64 zavap ∧ Aside0 (stowageref13_Encode.l0 kq l0 zavar zavap = some (r1, r2)) ∧ Aside0 (kq ≤ k) ∧ Aside0 (Below w.heap.size w w'))
  case atStart => exact ⟨(t457), (0), (by first | rfl | (simp; done) | (simp [*]; done)), (by first | rfl | (simp; done) | (simp [*]; done)), H', ⟨Nat.le_refl _⟩, ⟨zh0 HB⟩⟩
  case round =>
   clear H'
   try clear p2
   try clear c3
   try clear c4
   obtain ⟨zavar, zavap, rfl, rfl, HA, HK1, HB⟩ := hrel
   cases gk with
   | zero => exact absurd HA.out (by simp [stowageref13_Encode.l0])
   | succ k1 =>
    have H := HA.out
    clear HA
    simp only [stowageref13_Encode.l0] at H
    by_cases c7 : zavap < (l0.length : Int)
    ·rw [if_pos c7] at H
     have c7b0 : decide (zavap < (l0.length : Int)) = true := decide_eq_true c7
     clear c7
     by_cases c8 : 0 ≤ zavap
     ·rw [if_pos c8] at H
      have c8b0 : decide (0 ≤ zavap) = true := decide_eq_true c8
      clear c8
      replace H := Option.bind_eq_some_iff.mp H
      obtain ⟨t460, A90, H⟩ := H
      replace H : (if zavar.size + t460.size ≤ 9223372036854775807 then (if (rd_T36 l0 zavap).f1 = true then (if (zavar ++ t460).size + 1 ≤ 9223372036854775807 then (stowageref13_Encode.l0 k1 l0 ((zavar ++ t460) ++ (⟨#[1]⟩ : ByteArray)) (wrap64 (zavap + 1))) else (none)) else (if (zavar ++ t460).size + 1 ≤ 9223372036854775807 then ((stowageref13_Told.f k1 ((rd_T36 l0 zavap).f4)).bind fun t461 => (if ((zavar ++ t460) ++ (⟨#[0]⟩ : ByteArray)).size + t461.size ≤ 9223372036854775807 then ((stowageref01_Text.f k1 ((rd_T36 l0 zavap).f3)).bind fun t462 => (if (((zavar ++ t460) ++ (⟨#[0]⟩ : ByteArray)) ++ t461).size + t462.size ≤ 9223372036854775807 then (stowageref13_Encode.l0 k1 l0 ((((zavar ++ t460) ++ (⟨#[0]⟩ : ByteArray)) ++ t461) ++ t462) (wrap64 (zavap + 1))) else (none))) else (none))) else (none))) else (none)) = some (r1, r2) := H
      have A9 := zavan A90
      clear A90
      by_cases c10 : zavar.size + t460.size ≤ 9223372036854775807
      ·rw [if_pos c10] at H
       have c10b0 := eq_true c10
       have c10b1 : decide (zavar.size + t460.size ≤ 9223372036854775807) = true := decide_eq_true c10
       try have c10b2 : (9223372036854775807 < zavar.size + t460.size) = False := eq_false (Nat.not_lt.2 c10)
       obtain ⟨bq11, hbq11⟩ : ∃ b_ : Bool, b_ = ((rd_T36 l0 zavap).f1) := ⟨_, rfl⟩
       replace H : (if bq11 = true then (if (zavar ++ t460).size + 1 ≤ 9223372036854775807 then (stowageref13_Encode.l0 k1 l0 ((zavar ++ t460) ++ (⟨#[1]⟩ : ByteArray)) (wrap64 (zavap + 1))) else (none)) else (if (zavar ++ t460).size + 1 ≤ 9223372036854775807 then ((stowageref13_Told.f k1 ((rd_T36 l0 zavap).f4)).bind fun t461 => (if ((zavar ++ t460) ++ (⟨#[0]⟩ : ByteArray)).size + t461.size ≤ 9223372036854775807 then ((stowageref01_Text.f k1 ((rd_T36 l0 zavap).f3)).bind fun t462 => (if (((zavar ++ t460) ++ (⟨#[0]⟩ : ByteArray)) ++ t461).size + t462.size ≤ 9223372036854775807 then (stowageref13_Encode.l0 k1 l0 ((((zavar ++ t460) ++ (⟨#[0]⟩ : ByteArray)) ++ t461) ++ t462) (wrap64 (zavap + 1))) else (none))) else (none))) else (none))) = some (r1, r2) := by rw [← hbq11] at H; exact H
       have Nbq11 := zavan hbq11
       clear hbq11
       by_cases c12 : bq11 = true
       ·subst c12
        have H1 : (if (zavar ++ t460).size + 1 ≤ 9223372036854775807 then (stowageref13_Encode.l0 k1 l0 ((zavar ++ t460) ++ (⟨#[1]⟩ : ByteArray)) (wrap64 (zavap + 1))) else (none)) = some (r1, r2) := by rw [if_pos rfl] at H; exact H
        clear H
        have H := H1
        clear H1
        by_cases c13 : (zavar ++ t460).size + 1 ≤ 9223372036854775807
        ·rw [if_pos c13] at H
         have c13b0 := eq_true c13
         have c13b1 : decide ((zavar ++ t460).size + 1 ≤ 9223372036854775807) = true := decide_eq_true c13
         try have c13b2 : (9223372036854775807 < (zavar ++ t460).size + 1) = False := eq_false (Nat.not_lt.2 c13)
         try have c13b3 : (9223372036854775807 < zavar.size + t460.size + 1) = False := eq_false (by have q_ := c13; simp only [ByteArray.size_append] at q_; omega)
         have H' := zavan H
         clear H
         have p458 : 0 ≤ (zavap : Int) := of_decide_eq_true (by first | (with_reducible assumption) | assumption)
         have q458 : zavap < (l0.length : Int) := of_decide_eq_true (by first | (with_reducible assumption) | assumption)
         obtain ⟨ad458, A458_4, c458_4, e458, hx458_0, hx458_1, hx458_2, hx458_3, hx458_4, hl458_4, hi458_4⟩ := at_T36 HR0.out zavap p458 q458
         (try rw [← Nbq11.out] at hx458_1)
         cases e458
         replace hx458_0 := (HB.out.cell (zavad w _ hx458_0)).trans hx458_0
         replace hx458_1 := (HB.out.cell (zavad w _ hx458_1)).trans hx458_1
         replace hx458_2 := (HB.out.cell (zavad w _ hx458_2)).trans hx458_2
         replace hx458_3 := (HB.out.cell (zavad w _ hx458_3)).trans hx458_3
         replace hx458_4 := (HB.out.cell (zavad w _ hx458_4)).trans hx458_4
         have HR458_4 := zavan hi458_4
         have HC458_4 := zavan hl458_4
         clear hi458_4 hl458_4
         replace p458 := eq_true p458
         replace q458 := eq_true q458
         go_wp2_with (first | ((with_reducible refine gate_dst (N := 6) rfl ?_); refine box_event ?hg (N := 6) ?hd (cs := #[.int .i64 0, .bool false, .int .i64 0, .string (⟨#[]⟩ : ByteArray), .slice none 0 0]) (t := 36) ?hr ?_; (case hd => rfl); (case hg => rfl); (case hr => first | (go_simp; done) | (go_simp; rfl)); intro zavas hg w14 hbox hb; have n0_ := zavan (below_step (zh0 HB) hb); have n1_ := zavan (hbox); have n2_ := zns hg (zh0 HB); have n3_ := zns hg (zh0 HB); clear HB; have HB := n0_; have zavao := n1_; have zavaz := n2_; have zavau := n3_; clear n0_ n1_ n2_ n3_; clear hb hbox hg; have zavbc : w14.cell? ⟨zavas, 0, none⟩ = some (.int .i64 0) := (zaval zavao.out 0).trans rfl; have zavbd : w14.cell? ⟨zavas, 1, none⟩ = some (.bool false) := (zaval zavao.out 1).trans rfl; have zavbe : w14.cell? ⟨zavas, 2, none⟩ = some (.int .i64 0) := (zaval zavao.out 2).trans rfl; have zavbf : w14.cell? ⟨zavas, 3, none⟩ = some (.string (⟨#[]⟩ : ByteArray)) := (zaval zavao.out 3).trans rfl; have zavbg : w14.cell? ⟨zavas, 4, none⟩ = some (.slice none 0 0) := (zaval zavao.out 4).trans rfl; have zavbh := zavam zavao.out 0; have zavbi := zavam zavao.out 1; have zavbj := zavam zavao.out 2; have zavbk := zavam zavao.out 3; have zavbl := zavam zavao.out 4) | ((with_reducible refine gate_callee (f := 44) rfl ?_); refine goesL_ (some 28) rfl rfl Try.func44 (by kernel_rfl) rfl #[.int .u64 (IntKind.u64.wrap ((rd_T36 l0 zavap).f0))] rfl (by (try simp only [List.map_toArray, List.map_cons, List.map_nil]); first | done | rfl | (rw [IntWalk.u64_in ((rd_T36 l0 zavap).f0) (by first | omega | (simp only [decide_eq_false_iff_not, decide_eq_true_eq] at *; omega))]; rfl)) ?_; (with_reducible refine (stowageref01_Number.calls k1 (IntKind.u64.wrap ((rd_T36 l0 zavap).f0)) t460 _ A9.out).mono ?_); rintro e w16 ⟨rfl, hb⟩; refine ⟨_, rfl, ?_⟩; have n0_ := zavan (blk_below (g := zavas) (o := .cells #[.int .i64 ((rd_T36 l0 zavap).f0), .bool true, .int .i64 ((rd_T36 l0 zavap).f2), .string ((rd_T36 l0 zavap).f3), .slice A458_4 ((rd_T36 l0 zavap).f4).length c458_4] 36 (0, 0)) (by (with_reducible repeat (first | refine zavae ?_ _ | refine zavag ?_ | refine zavaf ?_ _)); refine blk_put (cs := #[.int .i64 ((rd_T36 l0 zavap).f0), .bool true, .int .i64 ((rd_T36 l0 zavap).f2), .string ((rd_T36 l0 zavap).f3), .slice none 0 0]) ?_ 4 _ rfl; (with_reducible repeat (first | refine zavae ?_ _ | refine zavag ?_ | refine zavaf ?_ _)); refine blk_put (cs := #[.int .i64 ((rd_T36 l0 zavap).f0), .bool true, .int .i64 ((rd_T36 l0 zavap).f2), .string (⟨#[]⟩ : ByteArray), .slice none 0 0]) ?_ 3 _ rfl; (with_reducible repeat (first | refine zavae ?_ _ | refine zavag ?_ | refine zavaf ?_ _)); refine blk_put (cs := #[.int .i64 ((rd_T36 l0 zavap).f0), .bool true, .int .i64 0, .string (⟨#[]⟩ : ByteArray), .slice none 0 0]) ?_ 2 _ rfl; (with_reducible repeat (first | refine zavae ?_ _ | refine zavag ?_ | refine zavaf ?_ _)); refine blk_put (cs := #[.int .i64 ((rd_T36 l0 zavap).f0), .bool false, .int .i64 0, .string (⟨#[]⟩ : ByteArray), .slice none 0 0]) ?_ 1 _ rfl; (with_reducible repeat (first | refine zavae ?_ _ | refine zavag ?_ | refine zavaf ?_ _)); refine blk_put (cs := #[.int .i64 0, .bool false, .int .i64 0, .string (⟨#[]⟩ : ByteArray), .slice none 0 0]) ?_ 0 _ rfl; exact zbk zavao) hb); have n1_ := zavan (below_step (zh1 HB zavau) hb); clear zavao; clear HB; have zavao := n0_; have HB := n1_; clear n0_ n1_; (try clear hb); (try clear hk); (try clear hi); have zavbm : w16.cell? ⟨zavas, 0, none⟩ = some (.int .i64 ((rd_T36 l0 zavap).f0)) := (zaval zavao.out 0).trans rfl; have zavbn : w16.cell? ⟨zavas, 1, none⟩ = some (.bool true) := (zaval zavao.out 1).trans rfl; have zavbo : w16.cell? ⟨zavas, 2, none⟩ = some (.int .i64 ((rd_T36 l0 zavap).f2)) := (zaval zavao.out 2).trans rfl; have zavbp : w16.cell? ⟨zavas, 3, none⟩ = some (.string ((rd_T36 l0 zavap).f3)) := (zaval zavao.out 3).trans rfl; have zavbq : w16.cell? ⟨zavas, 4, none⟩ = some (.slice A458_4 ((rd_T36 l0 zavap).f4).length c458_4) := (zaval zavao.out 4).trans rfl; have zavbr := zavam zavao.out 0; have zavbs := zavam zavao.out 1; have zavbt := zavam zavao.out 2; have zavbu := zavam zavao.out 3; have zavbv := zavam zavao.out 4))
         go_roundg k1
         case measure => have := HK1.out; omega
         case rel => exact ⟨((zavar ++ t460) ++ (⟨#[1]⟩ : ByteArray)), (wrap64 (zavap + 1)), (by first | rfl | (simp; done) | (simp [*]; done)), (by first | rfl | (simp; done) | (simp [*]; done)), H', ⟨by have := HK1.out; omega⟩, ⟨zh1 HB zavau⟩⟩
        ·rw [if_neg c13] at H
         exact absurd H (by simp)
       ·replace c12 := Bool.eq_false_iff.mpr c12
        subst c12
        have H1 : (if (zavar ++ t460).size + 1 ≤ 9223372036854775807 then ((stowageref13_Told.f k1 ((rd_T36 l0 zavap).f4)).bind fun t461 => (if ((zavar ++ t460) ++ (⟨#[0]⟩ : ByteArray)).size + t461.size ≤ 9223372036854775807 then ((stowageref01_Text.f k1 ((rd_T36 l0 zavap).f3)).bind fun t462 => (if (((zavar ++ t460) ++ (⟨#[0]⟩ : ByteArray)) ++ t461).size + t462.size ≤ 9223372036854775807 then (stowageref13_Encode.l0 k1 l0 ((((zavar ++ t460) ++ (⟨#[0]⟩ : ByteArray)) ++ t461) ++ t462) (wrap64 (zavap + 1))) else (none))) else (none))) else (none)) = some (r1, r2) := by rw [if_neg (show ¬ (false = true) by decide)] at H; exact H
        clear H
        have H := H1
        clear H1
        by_cases c18 : (zavar ++ t460).size + 1 ≤ 9223372036854775807
        ·rw [if_pos c18] at H
         have c18b0 := eq_true c18
         have c18b1 : decide ((zavar ++ t460).size + 1 ≤ 9223372036854775807) = true := decide_eq_true c18
         try have c18b2 : (9223372036854775807 < (zavar ++ t460).size + 1) = False := eq_false (Nat.not_lt.2 c18)
         try have c18b3 : (9223372036854775807 < zavar.size + t460.size + 1) = False := eq_false (by have q_ := c18; simp only [ByteArray.size_append] at q_; omega)
         replace H := Option.bind_eq_some_iff.mp H
         obtain ⟨t461, A190, H⟩ := H
         replace H : (if ((zavar ++ t460) ++ (⟨#[0]⟩ : ByteArray)).size + t461.size ≤ 9223372036854775807 then ((stowageref01_Text.f k1 ((rd_T36 l0 zavap).f3)).bind fun t462 => (if (((zavar ++ t460) ++ (⟨#[0]⟩ : ByteArray)) ++ t461).size + t462.size ≤ 9223372036854775807 then (stowageref13_Encode.l0 k1 l0 ((((zavar ++ t460) ++ (⟨#[0]⟩ : ByteArray)) ++ t461) ++ t462) (wrap64 (zavap + 1))) else (none))) else (none)) = some (r1, r2) := H
         have A19 := zavan A190
         clear A190
         by_cases c20 : ((zavar ++ t460) ++ (⟨#[0]⟩ : ByteArray)).size + t461.size ≤ 9223372036854775807
         ·rw [if_pos c20] at H
          have c20b0 := eq_true c20
          have c20b1 : decide (((zavar ++ t460) ++ (⟨#[0]⟩ : ByteArray)).size + t461.size ≤ 9223372036854775807) = true := decide_eq_true c20
          try have c20b2 : (9223372036854775807 < ((zavar ++ t460) ++ (⟨#[0]⟩ : ByteArray)).size + t461.size) = False := eq_false (Nat.not_lt.2 c20)
          try have c20b3 : (9223372036854775807 < zavar.size + t460.size + 1 + t461.size) = False := eq_false (by have q_ := c20; simp only [ByteArray.size_append, show (⟨#[0]⟩ : ByteArray).size = 1 from rfl] at q_; omega)
          replace H := Option.bind_eq_some_iff.mp H
          obtain ⟨t462, A210, H⟩ := H
          replace H : (if (((zavar ++ t460) ++ (⟨#[0]⟩ : ByteArray)) ++ t461).size + t462.size ≤ 9223372036854775807 then (stowageref13_Encode.l0 k1 l0 ((((zavar ++ t460) ++ (⟨#[0]⟩ : ByteArray)) ++ t461) ++ t462) (wrap64 (zavap + 1))) else (none)) = some (r1, r2) := H
          have A21 := zavan A210
          clear A210
          by_cases c22 : (((zavar ++ t460) ++ (⟨#[0]⟩ : ByteArray)) ++ t461).size + t462.size ≤ 9223372036854775807
          ·rw [if_pos c22] at H
           have c22b0 := eq_true c22
           have c22b1 : decide ((((zavar ++ t460) ++ (⟨#[0]⟩ : ByteArray)) ++ t461).size + t462.size ≤ 9223372036854775807) = true := decide_eq_true c22
           try have c22b2 : (9223372036854775807 < (((zavar ++ t460) ++ (⟨#[0]⟩ : ByteArray)) ++ t461).size + t462.size) = False := eq_false (Nat.not_lt.2 c22)
           try have c22b3 : (9223372036854775807 < zavar.size + t460.size + 1 + t461.size + t462.size) = False := eq_false (by have q_ := c22; simp only [ByteArray.size_append, show (⟨#[0]⟩ : ByteArray).size = 1 from rfl] at q_; omega)
           have H' := zavan H
           clear H
           have p458 : 0 ≤ (zavap : Int) := of_decide_eq_true (by first | (with_reducible assumption) | assumption)
           have q458 : zavap < (l0.length : Int) := of_decide_eq_true (by first | (with_reducible assumption) | assumption)
           obtain ⟨ad458, A458_4, c458_4, e458, hx458_0, hx458_1, hx458_2, hx458_3, hx458_4, hl458_4, hi458_4⟩ := at_T36 HR0.out zavap p458 q458
           (try rw [← Nbq11.out] at hx458_1)
           cases e458
           replace hx458_0 := (HB.out.cell (zavad w _ hx458_0)).trans hx458_0
           replace hx458_1 := (HB.out.cell (zavad w _ hx458_1)).trans hx458_1
           replace hx458_2 := (HB.out.cell (zavad w _ hx458_2)).trans hx458_2
           replace hx458_3 := (HB.out.cell (zavad w _ hx458_3)).trans hx458_3
           replace hx458_4 := (HB.out.cell (zavad w _ hx458_4)).trans hx458_4
           have HR458_4 := zavan hi458_4
           have HC458_4 := zavan hl458_4
           clear hi458_4 hl458_4
           replace p458 := eq_true p458
           replace q458 := eq_true q458
           try go_wp2_with (first | ((with_reducible refine gate_dst (N := 6) rfl ?_); refine box_event ?hg (N := 6) ?hd (cs := #[.int .i64 0, .bool false, .int .i64 0, .string (⟨#[]⟩ : ByteArray), .slice none 0 0]) (t := 36) ?hr ?_; (case hd => rfl); (case hg => rfl); (case hr => first | (go_simp; done) | (go_simp; rfl)); intro zavas hg w23 hbox hb; have n0_ := zavan (below_step (zh0 HB) hb); have n1_ := zavan (hbox); have n2_ := zns hg (zh0 HB); have n3_ := zns hg (zh0 HB); clear HB; have HB := n0_; have zavao := n1_; have zavaz := n2_; have zavau := n3_; clear n0_ n1_ n2_ n3_; clear hb hbox hg; have zavbw : w23.cell? ⟨zavas, 0, none⟩ = some (.int .i64 0) := (zaval zavao.out 0).trans rfl; have zavbx : w23.cell? ⟨zavas, 1, none⟩ = some (.bool false) := (zaval zavao.out 1).trans rfl; have zavby : w23.cell? ⟨zavas, 2, none⟩ = some (.int .i64 0) := (zaval zavao.out 2).trans rfl; have zavbz : w23.cell? ⟨zavas, 3, none⟩ = some (.string (⟨#[]⟩ : ByteArray)) := (zaval zavao.out 3).trans rfl; have zavca : w23.cell? ⟨zavas, 4, none⟩ = some (.slice none 0 0) := (zaval zavao.out 4).trans rfl; have zavcb := zavam zavao.out 0; have zavcc := zavam zavao.out 1; have zavcd := zavam zavao.out 2; have zavce := zavam zavao.out 3; have zavcf := zavam zavao.out 4) | ((with_reducible refine gate_callee (f := 44) rfl ?_); refine goesL_ (some 28) rfl rfl Try.func44 (by kernel_rfl) rfl #[.int .u64 (IntKind.u64.wrap ((rd_T36 l0 zavap).f0))] rfl (by (try simp only [List.map_toArray, List.map_cons, List.map_nil]); first | done | rfl | (rw [IntWalk.u64_in ((rd_T36 l0 zavap).f0) (by first | omega | (simp only [decide_eq_false_iff_not, decide_eq_true_eq] at *; omega))]; rfl)) ?_; (with_reducible refine (stowageref01_Number.calls k1 (IntKind.u64.wrap ((rd_T36 l0 zavap).f0)) t460 _ A9.out).mono ?_); rintro e w25 ⟨rfl, hb⟩; refine ⟨_, rfl, ?_⟩; have n0_ := zavan (blk_below (g := zavas) (o := .cells #[.int .i64 ((rd_T36 l0 zavap).f0), .bool false, .int .i64 ((rd_T36 l0 zavap).f2), .string ((rd_T36 l0 zavap).f3), .slice A458_4 ((rd_T36 l0 zavap).f4).length c458_4] 36 (0, 0)) (by (with_reducible repeat (first | refine zavae ?_ _ | refine zavag ?_ | refine zavaf ?_ _)); refine blk_put (cs := #[.int .i64 ((rd_T36 l0 zavap).f0), .bool false, .int .i64 ((rd_T36 l0 zavap).f2), .string ((rd_T36 l0 zavap).f3), .slice none 0 0]) ?_ 4 _ rfl; (with_reducible repeat (first | refine zavae ?_ _ | refine zavag ?_ | refine zavaf ?_ _)); refine blk_put (cs := #[.int .i64 ((rd_T36 l0 zavap).f0), .bool false, .int .i64 ((rd_T36 l0 zavap).f2), .string (⟨#[]⟩ : ByteArray), .slice none 0 0]) ?_ 3 _ rfl; (with_reducible repeat (first | refine zavae ?_ _ | refine zavag ?_ | refine zavaf ?_ _)); refine blk_put (cs := #[.int .i64 ((rd_T36 l0 zavap).f0), .bool false, .int .i64 0, .string (⟨#[]⟩ : ByteArray), .slice none 0 0]) ?_ 2 _ rfl; (with_reducible repeat (first | refine zavae ?_ _ | refine zavag ?_ | refine zavaf ?_ _)); refine blk_put (cs := #[.int .i64 ((rd_T36 l0 zavap).f0), .bool false, .int .i64 0, .string (⟨#[]⟩ : ByteArray), .slice none 0 0]) ?_ 1 _ rfl; (with_reducible repeat (first | refine zavae ?_ _ | refine zavag ?_ | refine zavaf ?_ _)); refine blk_put (cs := #[.int .i64 0, .bool false, .int .i64 0, .string (⟨#[]⟩ : ByteArray), .slice none 0 0]) ?_ 0 _ rfl; exact zbk zavao) hb); have n1_ := zavan (below_step (zh1 HB zavau) hb); clear zavao; clear HB; have zavao := n0_; have HB := n1_; clear n0_ n1_; (try clear hb); (try clear hk); (try clear hi); have zavcg : w25.cell? ⟨zavas, 0, none⟩ = some (.int .i64 ((rd_T36 l0 zavap).f0)) := (zaval zavao.out 0).trans rfl; have zavch : w25.cell? ⟨zavas, 1, none⟩ = some (.bool false) := (zaval zavao.out 1).trans rfl; have zavci : w25.cell? ⟨zavas, 2, none⟩ = some (.int .i64 ((rd_T36 l0 zavap).f2)) := (zaval zavao.out 2).trans rfl; have zavcj : w25.cell? ⟨zavas, 3, none⟩ = some (.string ((rd_T36 l0 zavap).f3)) := (zaval zavao.out 3).trans rfl; have zavck : w25.cell? ⟨zavas, 4, none⟩ = some (.slice A458_4 ((rd_T36 l0 zavap).f4).length c458_4) := (zaval zavao.out 4).trans rfl; have zavcl := zavam zavao.out 0; have zavcm := zavam zavao.out 1; have zavcn := zavam zavao.out 2; have zavco := zavam zavao.out 3; have zavcp := zavam zavao.out 4))
           have n0_ := zavan (zavag zavao.out)
           have n1_ := zavan (zavaj HB.out)
           clear zavao
           clear HB
           have zavao := n0_
           have HB := n1_
           clear n0_ n1_
           refine start_ (n := 11) (S := fun w' => w'.cell? ⟨zavas, 0, none⟩ = some (.int .i64 ((rd_T36 l0 zavap).f0)) ∧ w'.cell? ⟨zavas, 1, none⟩ = some (.bool false) ∧ w'.cell? ⟨zavas, 2, none⟩ = some (.int .i64 ((rd_T36 l0 zavap).f2)) ∧ w'.cell? ⟨zavas, 3, none⟩ = some (.string ((rd_T36 l0 zavap).f3)) ∧ w'.cell? ⟨zavas, 4, none⟩ = some (.slice A458_4 ((rd_T36 l0 zavap).f4).length c458_4)) (ds := []) zavsq0 (by kernel_rfl) rfl rfl ⟨(zaval zavao.out 0).trans rfl, (zaval zavao.out 1).trans rfl, (zaval zavao.out 2).trans rfl, (zaval zavao.out 3).trans rfl, (zaval zavao.out 4).trans rfl⟩ (fun hHeld => ?_); refine with_tabW stowageref13_Encode.tab11 stowageref13_Encode.bits11 (fun HT_ HW_ => ?_)
           generalize w25.drew = w27 at zavao HB hHeld ⊢
           refine pure_ (i := 0) (N := some 34) (v := ?_) (a' := ?_) zavsq1 rfl rfl (any_of HT_.out (by kernel_rfl)) (fun _ _ _ h => h) (Or.inl ⟨by rfl, ?_⟩) ?_ ?_
           rotate_left
           ·intro w'
            go_simp
            with_reducible rfl
           rotate_left
           ·simp only [Act.put, zavaa, zavab, zavac, i64_w, i32_w]
            rfl
           refine pure_ (i := 1) (N := some 35) (v := ?_) (a' := ?_) zavsq2 rfl rfl (any_of HT_.out (by kernel_rfl)) (fun _ _ _ h => h) (Or.inl ⟨by rfl, ?_⟩) ?_ ?_
           rotate_left
           ·intro w'
            go_simp
            with_reducible rfl
           rotate_left
           ·simp only [Act.put, zavaa, zavab, zavac, i64_w, i32_w]
            rfl
           refine pure_ (i := 2) (N := some 36) (v := ?_) (a' := ?_) zavsq3 rfl rfl (any_of HT_.out (by kernel_rfl)) (fun _ _ _ h => h) (Or.inl ⟨by rfl, ?_⟩) ?_ ?_
           rotate_left
           ·intro w'
            go_simp
            with_reducible rfl
           rotate_left
           ·simp only [Act.put, zavaa, zavab, zavac, i64_w, i32_w]
            rfl
           refine pure_ (i := 6) (N := some 40) (v := ?_) (a' := ?_) zavsq4 rfl rfl (any_of HT_.out (by kernel_rfl)) (fun _ _ _ h => h) (Or.inl ⟨by rfl, ?_⟩) ?_ ?_
           rotate_left
           ·intro w'
            go_simp
            with_reducible rfl
           rotate_left
           ·simp only [Act.put, zavaa, zavab, zavac, i64_w, i32_w]
            rfl
           refine take_ (i := 3) (N := some 37) (v := ?_) (a' := ?_) zavsq5 rfl rfl (take_ofW HT_.out HW_.out (by kernel_rfl)) (fun _ _ _ h => h) (Or.inl ⟨by rfl, ?_⟩) hHeld ?_ ?_
           rotate_left
           ·rintro w' ⟨s0, s1, s2, s3, s4⟩
            go_simp
            with_reducible rfl
           rotate_left
           ·simp only [Act.put, zavaa, zavab, zavac, i64_w, i32_w]
            rfl
           refine take_ (i := 7) (N := some 41) (v := ?_) (a' := ?_) zavsq6 rfl rfl (take_ofW HT_.out HW_.out (by kernel_rfl)) (fun _ _ _ h => h) (Or.inl ⟨by rfl, ?_⟩) hHeld ?_ ?_
           rotate_left
           ·rintro w' ⟨s0, s1, s2, s3, s4⟩
            go_simp
            with_reducible rfl
           rotate_left
           ·simp only [Act.put, zavaa, zavab, zavac, i64_w, i32_w]
            rfl
           refine one_ (i := 4) (N := some 38) zavsq7 rfl rfl (one_of HT_.out (by kernel_rfl)) (by decide) (fun K hK => ?_)
           refine goes_ Try.func45 (by kernel_rfl) rfl #[.slice A458_4 ((rd_T36 l0 zavap).f4).length c458_4] (by rfl) rfl rfl (by (try simp only [List.map_toArray, List.map_cons, List.map_nil]); first | done | rfl) ?_
           with_reducible refine (stowageref13_Told.calls k1 _ _ ((rd_T36 l0 zavap).f4) t461 _ ?side1 ?side2 A19.out).mono ?_
           (case side1 => repeat (first | exact (Kd.C_below HR458_4.out HB.out) | (with_reducible refine Kd.C_alloc ?_ _) | (with_reducible refine Kd.C_drewN ?_ _) | (with_reducible refine Kd.C_drew ?_)))
           (case side2 => exact HC458_4.out)
           rintro e w28 ⟨rfl, hb⟩
           refine ⟨_, rfl, ?_⟩
           have n0_ := zbb zavao hb
           have n1_ := zavan (below_step (zh1 HB zavau) hb)
           clear zavao
           clear HB
           have zavao := n0_
           have HB := n1_
           clear n0_ n1_
           (try clear hb)
           (try clear hb2)
           (try clear hk)
           (try clear hi)
           refine hK.out _ _ ⟨(zaval zavao.out 0).trans rfl, (zaval zavao.out 1).trans rfl, (zaval zavao.out 2).trans rfl, (zaval zavao.out 3).trans rfl, (zaval zavao.out 4).trans rfl⟩ (fun hHeld => ?_)
           clear hK K
           refine norm_ (a' := ?_) ?_ ?_
           rotate_left
           ·show Act.put _ (some 38) _ = _
            simp only [Act.put, zavaa, zavab, zavac, i64_w, i32_w]
            rfl
           refine pure_ (i := 5) (N := some 39) (v := ?_) (a' := ?_) zavsq8 rfl rfl (any_of HT_.out (by kernel_rfl)) (fun _ _ _ h => h) (Or.inl ⟨by rfl, ?_⟩) ?_ ?_
           rotate_left
           ·intro w'
            go_simp
            with_reducible rfl
           rotate_left
           ·simp only [Act.put, zavaa, zavab, zavac, i64_w, i32_w]
            rfl
           refine one_ (i := 8) (N := some 42) zavsq9 rfl rfl (one_of HT_.out (by kernel_rfl)) (by decide) (fun K hK => ?_)
           refine goes_ Try.func46 (by kernel_rfl) rfl #[.string ((rd_T36 l0 zavap).f3)] (by rfl) rfl rfl (by (try simp only [List.map_toArray, List.map_cons, List.map_nil]); first | done | rfl) ?_
           with_reducible refine (stowageref01_Text.calls k1 ((rd_T36 l0 zavap).f3) t462 _ A21.out).mono ?_
           rintro e w29 ⟨rfl, hb⟩
           refine ⟨_, rfl, ?_⟩
           have n0_ := zbb zavao hb
           have n1_ := zavan (below_step (zh1 HB zavau) hb)
           clear zavao
           clear HB
           have zavao := n0_
           have HB := n1_
           clear n0_ n1_
           (try clear hb)
           (try clear hb2)
           (try clear hk)
           (try clear hi)
           refine hK.out _ _ ⟨(zaval zavao.out 0).trans rfl, (zaval zavao.out 1).trans rfl, (zaval zavao.out 2).trans rfl, (zaval zavao.out 3).trans rfl, (zaval zavao.out 4).trans rfl⟩ (fun hHeld => ?_)
           clear hK K
           refine norm_ (a' := ?_) ?_ ?_
           rotate_left
           ·show Act.put _ (some 42) _ = _
            simp only [Act.put, zavaa, zavab, zavac, i64_w, i32_w]
            rfl
           refine pure_ (i := 9) (N := some 43) (v := ?_) (a' := ?_) zavsq10 rfl rfl (any_of HT_.out (by kernel_rfl)) (fun _ _ _ h => h) (Or.inl ⟨by rfl, ?_⟩) ?_ ?_
           rotate_left
           ·intro w'
            go_simp
            with_reducible rfl
           rotate_left
           ·simp only [Act.put, zavaa, zavab, zavac, i64_w, i32_w]
            rfl
           refine pure_ (i := 10) (N := some 4) (v := ?_) (a' := ?_) zavsq11 rfl rfl (any_of HT_.out (by kernel_rfl)) (fun _ _ _ h => h) (Or.inl ⟨by rfl, ?_⟩) ?_ ?_
           rotate_left
           ·intro w'
            go_simp
            with_reducible rfl
           rotate_left
           ·simp only [Act.put, zavaa, zavab, zavac, i64_w, i32_w]
            rfl
           refine done_ (done_of HT_.out (by kernel_rfl)) ?_
           try go_wp2
           go_roundg k1
           case measure => have := HK1.out; omega
           case rel => exact ⟨((((zavar ++ t460) ++ (⟨#[0]⟩ : ByteArray)) ++ t461) ++ t462), (wrap64 (zavap + 1)), (by first | rfl | (simp; done) | (simp [*]; done)), (by first | rfl | (simp; done) | (simp [*]; done)), H', ⟨by have := HK1.out; omega⟩, ⟨zh1 HB zavau⟩⟩
          ·rw [if_neg c22] at H
           exact absurd H (by simp)
         ·rw [if_neg c20] at H
          exact absurd H (by simp)
        ·rw [if_neg c18] at H
         exact absurd H (by simp)
      ·rw [if_neg c10] at H
       exact absurd H (by simp)
     ·rw [if_neg c8] at H
      exact absurd H (by simp)
    ·rw [if_neg c7] at H
     have c7b0 : decide (zavap < (l0.length : Int)) = false := decide_eq_false c7
     clear c7
     simp only [Option.some.injEq, Prod.mk.injEq] at H
     obtain ⟨rfl, rfl⟩ := H
     go_wp2
     go_ret2
     exact ⟨by first | rfl | (simp [errW_none, errW_some] <;> rfl) | (simp [*, errW_none, errW_some] <;> rfl), zh0 HB⟩
 ·replace c3 := Bool.eq_false_iff.mpr c3
  subst c3
  have H1 : (some ((⟨#[]⟩ : ByteArray), 1)) = some (r1, r2) := by rw [if_neg (show ¬ (false = true) by decide)] at H; exact H
  clear H
  have H := H1
  clear H1
  simp only [Option.some.injEq, Prod.mk.injEq] at H
  obtain ⟨rfl, rfl⟩ := H
  go_enter Try.func31, Try.ntmps31
  go_wp2_with (first | ((with_reducible refine gate_callee (f := 40) rfl ?_); refine goesL_ (some 8) rfl rfl Try.func40 (by kernel_rfl) rfl #[.slice A0 l0.length c0] rfl (by (try simp only [List.map_toArray, List.map_cons, List.map_nil]); first | done | rfl) ?_; (with_reducible refine (stowageref13_May.calls k _ _ l0 false _ ?side1 ?side2 A2.out).mono ?_); (case side1 => repeat (first | exact HR0.out | (with_reducible refine Kd.C_alloc ?_ _) | (with_reducible refine Kd.C_drewN ?_ _) | (with_reducible refine Kd.C_drew ?_))); (case side2 => exact HC0.out); rintro e w30 ⟨rfl, hb⟩; refine ⟨_, rfl, ?_⟩; have n0_ := zavan (below_step (zh0 HB) hb); clear HB; have HB := n0_; clear n0_; (try clear hb); (try clear hk); (try clear hi)))
  go_ret2
  exact ⟨by first | rfl | (simp [errW_none, errW_some] <;> rfl) | (simp [*, errW_none, errW_some] <;> rfl), zh0 HB⟩

/-- A state of type 107 at block g of W; what its slices lead to came in by w0. -/
def IsS107 (w0 W : World) (g : Nat) (f0 : ByteArray) (f1 : Int) (f2 : Int) : Prop := W.heap[g]? = some (.cells #[.string f0, .int .i64 f1, .int .i64 f2] 107 (0, 0)) ∧ w0.heap.size ≤ g
theorem IsS107.grown {w0 W : World} {g : Nat} {f0 : ByteArray} {f1 : Int} {f2 : Int} {W1 : World} {row : Option Nat} (h : IsS107 w0 W g f0 f1 f2) (hw : W.grownBy W1 row) (hne : some g ≠ row) : IsS107 w0 W1 g f0 f1 f2 := by
 obtain ⟨hb, hg⟩ := h
 exact ⟨blk_grown hb hw hne, hg⟩
theorem IsS107.below {w0 W : World} {g : Nat} {f0 : ByteArray} {f1 : Int} {f2 : Int} {W1 : World} (h : IsS107 w0 W g f0 f1 f2) (hw : Below W.heap.size W W1) : IsS107 w0 W1 g f0 f1 f2 := h.grown (grown_of_below hw none) (by simp)
theorem IsS107.alloc {w0 W : World} {g : Nat} {f0 : ByteArray} {f1 : Int} {f2 : Int} (h : IsS107 w0 W g f0 f1 f2) (o : Obj) : IsS107 w0 (W.alloc o) g f0 f1 f2 := h.below (zavak (Below.refl _ _) o)
theorem IsS107.drewN {w0 W : World} {g : Nat} {f0 : ByteArray} {f1 : Int} {f2 : Int} (h : IsS107 w0 W g f0 f1 f2) (m : Nat) : IsS107 w0 (W.drewN m) g f0 f1 f2 := h
theorem IsS107.drew {w0 W : World} {g : Nat} {f0 : ByteArray} {f1 : Int} {f2 : Int} (h : IsS107 w0 W g f0 f1 f2) : IsS107 w0 W.drew g f0 f1 f2 := h
theorem IsS107.apart {w0 W : World} {g : Nat} {f0 : ByteArray} {f1 : Int} {f2 : Int} {α : Type} {d : Kd α} {e : Nat} {base : Nat} {ok : Nat → Prop} {v : Value} {xs : List α} (h : IsS107 w0 W g f0 f1 f2) (ho : d.R e W base ok v xs) (ht : ∀ q, q ∈ e :: d.E → q ≠ 107) : d.R e W base (fun k => ok k ∧ k ≠ g) v xs := by
 obtain ⟨hb, hg⟩ := h
 exact Kd.R_types ho hb ht
theorem IsS107.own_ne {w0 W : World} {g : Nat} {f0 : ByteArray} {f1 : Int} {f2 : Int} {α : Type} {d : Kd α} {e : Nat} {base : Nat} {ok : Nat → Prop} {v : Value} {xs : List α} (h : IsS107 w0 W g f0 f1 f2) (ho : d.R e W base ok v xs) (ht : e ≠ 107) : some g ≠ v.ownBlock := by
 obtain ⟨hb, hg⟩ := h
 exact Kd.R_ne ho hb ht
theorem IsS107.apartS {w0 W : World} {g : Nat} {f0 : ByteArray} {f1 : Int} {f2 : Int} {α : Type} {d : Kd α} {e : Nat} {base : Nat} {ok : Nat → Prop} {v : Value} {xs : List α} (h : IsS107 w0 W g f0 f1 f2) (ho : d.S e W base ok v xs) (ht : ∀ q, q ∈ e :: d.E → q ≠ 107) : d.S e W base (fun k => ok k ∧ k ≠ g) v xs := by
 obtain ⟨hb, hg⟩ := h
 exact Kd.S_types ho hb ht
theorem IsS107.own_neS {w0 W : World} {g : Nat} {f0 : ByteArray} {f1 : Int} {f2 : Int} {α : Type} {d : Kd α} {e : Nat} {base : Nat} {ok : Nat → Prop} {v : Value} {xs : List α} (h : IsS107 w0 W g f0 f1 f2) (ho : d.S e W base ok v xs) (ht : e ≠ 107) : some g ≠ v.ownBlock := by
 obtain ⟨hb, hg⟩ := h
 exact Kd.S_ne ho hb ht
theorem IsS107.lt {w0 W : World} {g : Nat} {f0 : ByteArray} {f1 : Int} {f2 : Int} (h : IsS107 w0 W g f0 f1 f2) : g < W.heap.size := by
 obtain ⟨hb, hg⟩ := h
 exact blk_lt hb
theorem IsS107.ge {w0 W : World} {g : Nat} {f0 : ByteArray} {f1 : Int} {f2 : Int} (h : IsS107 w0 W g f0 f1 f2) : w0.heap.size ≤ g := by
 obtain ⟨hb, hg⟩ := h
 exact hg
theorem IsS107.far {w0 W : World} {g : Nat} {f0 : ByteArray} {f1 : Int} {f2 : Int} {p : Addr} (h : IsS107 w0 W g f0 f1 f2) (hne : g ≠ p.block) (u : Value) : IsS107 w0 (W.setCell p u) g f0 f1 f2 := by
 obtain ⟨hb, hg⟩ := h
 exact ⟨blk_far hb hne u, hg⟩
theorem cellS107_0 {W : World} {g : Nat} {f0 : ByteArray} {f1 : Int} {f2 : Int} (h : W.heap[g]? = some (.cells #[.string f0, .int .i64 f1, .int .i64 f2] 107 (0, 0))) : W.cell? ⟨g, 0, none⟩ = some (.string f0) := (zaval h 0).trans rfl
theorem IsS107.set_0 {w0 W : World} {g : Nat} {f0 : ByteArray} {f1 : Int} {f2 : Int} (h : IsS107 w0 W g f0 f1 f2) (x : ByteArray) : IsS107 w0 (W.setCell ⟨g, 0, none⟩ (.string x)) g x f1 f2 := by
 obtain ⟨hb, hg⟩ := h
 exact ⟨by simpa using blk_set hb 0 (.string x), hg⟩
theorem cellS107_1 {W : World} {g : Nat} {f0 : ByteArray} {f1 : Int} {f2 : Int} (h : W.heap[g]? = some (.cells #[.string f0, .int .i64 f1, .int .i64 f2] 107 (0, 0))) : W.cell? ⟨g, 1, none⟩ = some (.int .i64 f1) := (zaval h 1).trans rfl
theorem IsS107.set_1 {w0 W : World} {g : Nat} {f0 : ByteArray} {f1 : Int} {f2 : Int} (h : IsS107 w0 W g f0 f1 f2) (x : Int) : IsS107 w0 (W.setCell ⟨g, 1, none⟩ (.int .i64 x)) g f0 x f2 := by
 obtain ⟨hb, hg⟩ := h
 exact ⟨by simpa using blk_set hb 1 (.int .i64 x), hg⟩
theorem cellS107_2 {W : World} {g : Nat} {f0 : ByteArray} {f1 : Int} {f2 : Int} (h : W.heap[g]? = some (.cells #[.string f0, .int .i64 f1, .int .i64 f2] 107 (0, 0))) : W.cell? ⟨g, 2, none⟩ = some (.int .i64 f2) := (zaval h 2).trans rfl
theorem IsS107.set_2 {w0 W : World} {g : Nat} {f0 : ByteArray} {f1 : Int} {f2 : Int} (h : IsS107 w0 W g f0 f1 f2) (x : Int) : IsS107 w0 (W.setCell ⟨g, 2, none⟩ (.int .i64 x)) g f0 f1 x := by
 obtain ⟨hb, hg⟩ := h
 exact ⟨by simpa using blk_set hb 2 (.int .i64 x), hg⟩
/-! ### octet_NewReader: function 47 -/
def octet_NewReader.f (a0 : ByteArray) : Option (ByteArray × Int × Int) := some (a0, 0, 0)
set_option maxHeartbeats 8000000 in
set_option maxRecDepth 100000 in
theorem octet_NewReader.calls (a0 : ByteArray) (r1 : ByteArray) (r2 : Int) (r3 : Int) (w0 w : World) (hB : Below w0.heap.size w0 w) (h : octet_NewReader.f a0 = some (r1, r2, r3)) :
  Calls Try.prog 47 #[.string a0] w fun e w' => ∃ g_ : Nat, e = .returned (.pointer (some ⟨g_, 0, none⟩)) ∧ IsS107 w0 w' g_ r1 r2 r3 ∧ Below w0.heap.size w0 w' ∧ Below w.heap.size w w' := by
 have hu107 := Try.underlying107
 have HBW := zavan (Below.refl w.heap.size w)
 have HW0 := zavan hB.size
 have HB := zavan hB
 clear hB
 have H : (some (a0, 0, 0)) = some (r1, r2, r3) := h
 clear h
 simp only [Option.some.injEq, Prod.mk.injEq] at H
 obtain ⟨rfl, rfl, rfl⟩ := H
 go_enter Try.func47, Try.ntmps47
 go_wp2_with (first | ((with_reducible refine gate_dst (N := 5) rfl ?_); refine box_event ?hg (N := 5) ?hd (cs := #[.string a0, .int .i64 0, .int .i64 0]) (t := 107) ?hr ?_; (case hd => rfl); (case hg => rfl); (case hr => first | (go_simp; done) | (go_simp; rfl)); intro zavaw hg w2 hbox hb; have n0_ := zavan (below_step HBW.out hb); have n1_ := zavan (below_step (zh0 HB) hb); have n2_ := zavan (hbox); have n3_ := zns hg (zh0 HBW); have n4_ := zavan ((Nat.le_trans HW0.out (by rw [hg]; exact (below_size (zh0 HBW)) : w.heap.size ≤ zavaw) : w0.heap.size ≤ zavaw)); clear HBW; clear HB; have HBW := n0_; have HB := n1_; have zavba := n2_; have zavbb := n3_; have zavay := n4_; clear n0_ n1_ n2_ n3_ n4_; clear hb hbox hg))
 go_ret
 exact ⟨_, rfl, (show IsS107 w0 _ zavaw a0 0 0 from ⟨by exact zbk zavba, zavay.out⟩), zh1 HB zavay, zh1 HBW zavbb⟩

/-! ### octet_Reader_Err: function 61 -/
def octet_Reader_Err.f (s0_0 : ByteArray) (s0_1 : Int) (s0_2 : Int) : Option (Int × ByteArray × Int × Int) := some (s0_2, s0_0, s0_1, s0_2)
set_option maxHeartbeats 8000000 in
set_option maxRecDepth 100000 in
theorem octet_Reader_Err.calls (g : Nat) (s0_0 : ByteArray) (s0_1 : Int) (s0_2 : Int) (r1 : Int) (r2 : ByteArray) (r3 : Int) (r4 : Int) (w0 w : World) (hI : IsS107 w0 w g s0_0 s0_1 s0_2) (hB : Below w0.heap.size w0 w) (h : octet_Reader_Err.f s0_0 s0_1 s0_2 = some (r1, r2, r3, r4)) :
  Calls Try.prog 61 #[.pointer (some ⟨g, 0, none⟩)] w fun e w' => e = .returned (.int .i64 r1) ∧ IsS107 w0 w' g r2 r3 r4 ∧ Below w0.heap.size w0 w' ∧ KeepBut w w' g none := by
 have HI0 := zavan hI
 have HK := zavan (KeepBut.refl w g none)
 have HL := zavan hB.size
 clear hI
 have HW0 := zavan hB.size
 have HB := zavan hB
 clear hB
 have H : (some (s0_2, s0_0, s0_1, s0_2)) = some (r1, r2, r3, r4) := h
 clear h
 simp only [Option.some.injEq, Prod.mk.injEq] at H
 obtain ⟨rfl, rfl, rfl, rfl⟩ := H
 obtain ⟨HGz2, hgz2⟩ := HI0.out
 have zavcq := cellS107_0 HGz2
 have zavcr := cellS107_1 HGz2
 have zavcs := cellS107_2 HGz2
 have zavct := zavam HGz2 0
 have zavcu := zavam HGz2 1
 have zavcv := zavam HGz2 2
 clear HGz2 hgz2
 go_enter Try.func61, Try.ntmps61
 go_wp2
 go_ret
 exact ⟨by first | rfl | (simp [errW_none, errW_some] <;> rfl) | (simp [*, errW_none, errW_some] <;> rfl), zh4 HI0, zh1 HB ⟨IsS107.ge HI0.out⟩, zh5 HK⟩

/-! ### octet_ReadNumber: function 62 -/
mutual
def octet_ReadNumber.j0 : Nat → ByteArray → Int → Bool → Option (Int × Int × Int)
 | 0, _, _, _ => none
 | k + 1, x0, x1, x17 => if x17 = true then (some (0, 0, 1)) else (octet_ReadNumber.l0 k x0 x1 0 0)
def octet_ReadNumber.l0 : Nat → ByteArray → Int → Int → Int → Option (Int × Int × Int)
 | 0, _, _, _, _ => none
 | k + 1, x0, x1, x7, x18 => if x18 < 10 then (if (wrap64 (x1 + x18)) ≥ (x0.size : Int) then (some (0, 0, 5)) else (if 0 ≤ (wrap64 (x1 + x18)) then (if (wrap64 (x1 + x18)) < (x0.size : Int) then (if x18 = 9 then (if (bt x0 (wrap64 (x1 + x18))) > 1 then (octet_ReadNumber.j2 k x0 x1 x7 x18 (bt x0 (wrap64 (x1 + x18))) x18 true) else (if x18 > 0 then (octet_ReadNumber.j2 k x0 x1 x7 x18 (bt x0 (wrap64 (x1 + x18))) x18 ((bt x0 (wrap64 (x1 + x18))) == 0)) else (octet_ReadNumber.j2 k x0 x1 x7 x18 (bt x0 (wrap64 (x1 + x18))) x18 false))) else (if x18 > 0 then (octet_ReadNumber.j2 k x0 x1 x7 x18 (bt x0 (wrap64 (x1 + x18))) x18 ((bt x0 (wrap64 (x1 + x18))) == 0)) else (octet_ReadNumber.j2 k x0 x1 x7 x18 (bt x0 (wrap64 (x1 + x18))) x18 false))) else (none)) else (none))) else (some (0, 0, 3))
def octet_ReadNumber.j2 : Nat → ByteArray → Int → Int → Int → Int → Int → Bool → Option (Int × Int × Int)
 | 0, _, _, _, _, _, _, _ => none
 | k + 1, x0, x1, x7, x8, x9, x18, x45 => if x45 = true then (some (0, 0, 3)) else (if 0 ≤ (wrap64 (7 * x8)) then (if x9 < 128 then (some (Go.bits .or .u64 x7 (shl .u64 (IntKind.u64.wrap (Go.bits .and .u8 x9 127)) (wrap64 (7 * x8))), wrap64 ((wrap64 (x1 + x8)) + 1), 0)) else (octet_ReadNumber.l0 k x0 x1 (Go.bits .or .u64 x7 (shl .u64 (IntKind.u64.wrap (Go.bits .and .u8 x9 127)) (wrap64 (7 * x8)))) (wrap64 (x18 + 1)))) else (none))
end
def octet_ReadNumber.f (k : Nat) (a0 : ByteArray) (a1 : Int) : Option (Int × Int × Int) := if a1 < 0 then (octet_ReadNumber.j0 k a0 a1 true) else (octet_ReadNumber.j0 k a0 a1 (decide (a1 > (a0.size : Int))))
set_option maxHeartbeats 8000000 in
set_option maxRecDepth 100000 in
theorem octet_ReadNumber.calls (k : Nat) (a0 : ByteArray) (a1 : Int) (r1 : Int) (r2 : Int) (r3 : Int) (w : World) (h : octet_ReadNumber.f k a0 a1 = some (r1, r2, r3)) :
  Calls Try.prog 62 #[.string a0, .int .i64 a1] w fun e w' => e = .returned (.tuple #[.int .u64 r1, .int .i64 r2, .int .i64 r3]) ∧ Drawn0 w w' := by
 have H : (if a1 < 0 then (octet_ReadNumber.j0 k a0 a1 true) else (octet_ReadNumber.j0 k a0 a1 (decide (a1 > (a0.size : Int))))) = some (r1, r2, r3) := h
 clear h
 have HC3 := zavan H
 clear H
 go_enter Try.func62, Try.ntmps62
 go_upto_region 1 with (fail)
 go_cut [17] (fun v17 wc => ∃ (kq : Nat) (zavax : Bool), v17 = .bool zavax ∧ Aside0 (octet_ReadNumber.j0 kq a0 a1 zavax = some (r1, r2, r3)) ∧ Aside0 (kq ≤ k) ∧ Drawn0 w wc)
 case first =>
  have H := HC3.out
  clear HC3
  by_cases c4 : a1 < 0
  ·rw [if_pos c4] at H
   have c4b0 : decide (a1 < 0) = true := decide_eq_true c4
   clear c4
   (first | rw [c4b0] | (simp only [i64_w, i32_w]; rw [c4b0]) | skip)
   have H' := zavan H
   clear H
   go_wp2
   go_meet
   case rel => exact ⟨_, (true), (by first | rfl | (simp; done) | (simp [*]; done)), H', ⟨by first | omega | exact Nat.le_refl _⟩, by repeat (first | exact Drawn0.refl _ | apply Drawn0.step)⟩
  ·rw [if_neg c4] at H
   have c4b0 : decide (a1 < 0) = false := decide_eq_false c4
   clear c4
   (first | rw [c4b0] | (simp only [i64_w, i32_w]; rw [c4b0]) | skip)
   have H' := zavan H
   clear H
   go_wp2
   go_meet
   case rel => exact ⟨_, (decide (a1 > (a0.size : Int))), (by first | rfl | (simp; done) | (simp [*]; done)), H', ⟨by first | omega | exact Nat.le_refl _⟩, by repeat (first | exact Drawn0.refl _ | apply Drawn0.step)⟩
 case rest =>
  clear HC3
  try clear p2
  try clear c4
  try clear c4b0
  obtain ⟨kq, zavax, rfl, HA, HJ2, ⟨mc2, rfl⟩⟩ := hcut
  cases kq with
  | zero => exact absurd HA.out (by simp [octet_ReadNumber.j0])
  | succ kj2 =>
   have H := HA.out
   clear HA
   simp only [octet_ReadNumber.j0] at H
   by_cases c5 : zavax = true
   ·subst c5
    have H1 : (some (0, 0, 1)) = some (r1, r2, r3) := by rw [if_pos rfl] at H; exact H
    clear H
    have H := H1
    clear H1
    simp only [Option.some.injEq, Prod.mk.injEq] at H
    obtain ⟨rfl, rfl, rfl⟩ := H
    go_wp2
    go_ret3
    exact ⟨by first | rfl | (simp; done) | (simp [*]; done), by repeat (first | exact Drawn0.refl _ | apply Drawn0.step)⟩
   ·replace c5 := Bool.eq_false_iff.mpr c5
    subst c5
    have H1 : (octet_ReadNumber.l0 kj2 a0 a1 0 0) = some (r1, r2, r3) := by rw [if_neg (show ¬ (false = true) by decide)] at H; exact H
    clear H
    have H := H1
    clear H1
    have H' := zavan H
    clear H
    go_wp2
    go_loopg [7, 18] kj2 (fun kq v7 v18 w' => ∃ (zavat : Int) (zavaq : Int), v7 = .int .u64 zavat ∧ v18 = .int .i64 zavaq ∧ Aside0 (octet_ReadNumber.l0 kq a0 a1 zavat zavaq = some (r1, r2, r3)) ∧ Aside0 (kq ≤ kj2) ∧ Drawn0 w w')
    case atStart => exact ⟨(0), (0), (by first | rfl | (simp; done) | (simp [*]; done)), (by first | rfl | (simp; done) | (simp [*]; done)), H', ⟨Nat.le_refl _⟩, by repeat (first | exact Drawn0.refl _ | apply Drawn0.step)⟩
    case round =>
     clear H'
     try clear c2
     try clear p2
     try clear c4
     try clear c4b0
     try clear c5
     try clear p2
     obtain ⟨zavat, zavaq, rfl, rfl, HA, HK2, ⟨m2, rfl⟩⟩ := hrel
     cases gk with
     | zero => exact absurd HA.out (by simp [octet_ReadNumber.l0])
     | succ k2 =>
      have H := HA.out
      clear HA
      simp only [octet_ReadNumber.l0] at H
      by_cases c6 : zavaq < 10
      ·rw [if_pos c6] at H
       have c6b0 : decide (zavaq < 10) = true := decide_eq_true c6
       clear c6
       by_cases c7 : (wrap64 (a1 + zavaq)) ≥ (a0.size : Int)
       ·rw [if_pos c7] at H
        have c7b0 : decide ((a0.size : Int) ≤ (wrap64 (a1 + zavaq))) = true := decide_eq_true c7
        clear c7
        simp only [Option.some.injEq, Prod.mk.injEq] at H
        obtain ⟨rfl, rfl, rfl⟩ := H
        go_wp2
        go_ret3
        exact ⟨by first | rfl | (simp; done) | (simp [*]; done), by repeat (first | exact Drawn0.refl _ | apply Drawn0.step)⟩
       ·rw [if_neg c7] at H
        have c7b0 : decide ((a0.size : Int) ≤ (wrap64 (a1 + zavaq))) = false := decide_eq_false c7
        clear c7
        obtain ⟨ji8, hji8⟩ : ∃ j_ : Int, (wrap64 (a1 + zavaq)) = j_ := ⟨_, rfl⟩
        replace H : (if 0 ≤ (ji8) then (if (ji8) < (a0.size : Int) then (if zavaq = 9 then (if (bt a0 (ji8)) > 1 then (octet_ReadNumber.j2 k2 a0 a1 zavat zavaq (bt a0 (ji8)) zavaq true) else (if zavaq > 0 then (octet_ReadNumber.j2 k2 a0 a1 zavat zavaq (bt a0 (ji8)) zavaq ((bt a0 (ji8)) == 0)) else (octet_ReadNumber.j2 k2 a0 a1 zavat zavaq (bt a0 (ji8)) zavaq false))) else (if zavaq > 0 then (octet_ReadNumber.j2 k2 a0 a1 zavat zavaq (bt a0 (ji8)) zavaq ((bt a0 (ji8)) == 0)) else (octet_ReadNumber.j2 k2 a0 a1 zavat zavaq (bt a0 (ji8)) zavaq false))) else (none)) else (none)) = some (r1, r2, r3) := by first | (rw [hji8] at H; exact H) | (simp only [hji8] at H ⊢; exact H)
        (try rw [hji8] at c7b0)
        have hji8w : (IntKind.i64.wrap (a1 + zavaq)) = ji8 := (i64_w _).trans hji8
        by_cases c9 : 0 ≤ (ji8)
        ·rw [if_pos c9] at H
         have c9b0 : decide (0 ≤ (ji8)) = true := decide_eq_true c9
         clear c9
         by_cases c10 : (ji8) < (a0.size : Int)
         ·rw [if_pos c10] at H
          have c10b0 : decide ((ji8) < (a0.size : Int)) = true := decide_eq_true c10
          clear c10
          have HC12 := zavan H
          clear H
          have p11 : 0 ≤ ((ji8) : Int) := of_decide_eq_true (by first | (with_reducible assumption) | assumption)
          have q11 : (ji8) < (a0.size : Int) := of_decide_eq_true (by first | (with_reducible assumption) | assumption)
          have hx11 := bt_at a0 (ji8)
          replace p11 := eq_true p11
          replace q11 := eq_true q11
          go_upto_region 10 with (fail)
          go_cut [45] (fun v45 wc => ∃ (kq : Nat) (zavav : Bool), v45 = .bool zavav ∧ Aside0 (octet_ReadNumber.j2 kq a0 a1 zavat zavaq (bt a0 (ji8)) zavaq zavav = some (r1, r2, r3)) ∧ Aside0 (kq ≤ k2) ∧ Drawn0 w wc)
          case first =>
           have H := HC12.out
           clear HC12
           by_cases c13 : zavaq = 9
           ·rw [if_pos c13] at H
            have c13b0 : (zavaq == 9) = true := beq_iff_eq.mpr c13
            have c13b1 : (zavaq != 9) = false := bne_eq_false_iff_eq.mpr c13
            clear c13
            (first | rw [c13b0] | (simp only [i64_w, i32_w]; rw [c13b0]) | skip)
            by_cases c14 : (bt a0 (ji8)) > 1
            ·rw [if_pos c14] at H
             have c14b0 : decide (1 < (bt a0 (ji8))) = true := decide_eq_true c14
             clear c14
             have H' := zavan H
             clear H
             go_wp2
             go_meet
             case rel => exact ⟨_, (true), (by first | rfl | (simp; done) | (simp [*]; done)), H', ⟨by have := HJ2.out; have := HK2.out; first | omega | exact Nat.le_refl _⟩, by repeat (first | exact Drawn0.refl _ | apply Drawn0.step)⟩
            ·rw [if_neg c14] at H
             have c14b0 : decide (1 < (bt a0 (ji8))) = false := decide_eq_false c14
             clear c14
             by_cases c15 : zavaq > 0
             ·rw [if_pos c15] at H
              have c15b0 : decide (0 < zavaq) = true := decide_eq_true c15
              clear c15
              have H' := zavan H
              clear H
              go_wp2
              go_meet
              case rel => exact ⟨_, (((bt a0 (ji8)) == 0)), (by first | rfl | (simp; done) | (simp only [← hji8] <;> (first | rfl | simp)) | (simp [*]; done)), H', ⟨by have := HJ2.out; have := HK2.out; first | omega | exact Nat.le_refl _⟩, by repeat (first | exact Drawn0.refl _ | apply Drawn0.step)⟩
             ·rw [if_neg c15] at H
              have c15b0 : decide (0 < zavaq) = false := decide_eq_false c15
              clear c15
              have H' := zavan H
              clear H
              go_wp2
              go_meet
              case rel => exact ⟨_, (false), (by first | rfl | (simp; done) | (simp [*]; done)), H', ⟨by have := HJ2.out; have := HK2.out; first | omega | exact Nat.le_refl _⟩, by repeat (first | exact Drawn0.refl _ | apply Drawn0.step)⟩
           ·rw [if_neg c13] at H
            have c13b0 : (zavaq == 9) = false := beq_eq_false_iff_ne.mpr c13
            have c13b1 : (zavaq != 9) = true := bne_iff_ne.mpr c13
            (first | rw [c13b0] | (simp only [i64_w, i32_w]; rw [c13b0]) | skip)
            by_cases c16 : zavaq > 0
            ·rw [if_pos c16] at H
             have c16b0 : decide (0 < zavaq) = true := decide_eq_true c16
             clear c16
             have H' := zavan H
             clear H
             go_wp2
             go_meet
             case rel => exact ⟨_, (((bt a0 (ji8)) == 0)), (by first | rfl | (simp; done) | (simp only [← hji8] <;> (first | rfl | simp)) | (simp [*]; done)), H', ⟨by have := HJ2.out; have := HK2.out; first | omega | exact Nat.le_refl _⟩, by repeat (first | exact Drawn0.refl _ | apply Drawn0.step)⟩
            ·rw [if_neg c16] at H
             have c16b0 : decide (0 < zavaq) = false := decide_eq_false c16
             clear c16
             have H' := zavan H
             clear H
             go_wp2
             go_meet
             case rel => exact ⟨_, (false), (by first | rfl | (simp; done) | (simp [*]; done)), H', ⟨by have := HJ2.out; have := HK2.out; first | omega | exact Nat.le_refl _⟩, by repeat (first | exact Drawn0.refl _ | apply Drawn0.step)⟩
          case rest =>
           clear HC12
           try clear c1
           try clear p1
           try clear q1
           try clear hx1
           try clear c2
           try clear p2
           try clear c4
           try clear c4b0
           try clear c5
           try clear c6
           try clear c6b0
           try clear p6
           try clear c7
           try clear c7b0
           try clear c9
           try clear c9b0
           try clear c10
           try clear c10b0
           try clear p11
           try clear q11
           try clear hx11
           try clear c13
           try clear c13b0
           try clear c13b1
           try clear c14
           try clear c14b0
           try clear c15
           try clear c15b0
           try clear c16
           try clear c16b0
           try clear p11
           try clear p2
           try clear q11
           obtain ⟨kq, zavav, rfl, HA, HJ11, ⟨mc11, rfl⟩⟩ := hcut
           cases kq with
           | zero => exact absurd HA.out (by simp [octet_ReadNumber.j2])
           | succ kj11 =>
            have H := HA.out
            clear HA
            simp only [octet_ReadNumber.j2] at H
            by_cases c17 : zavav = true
            ·subst c17
             have H1 : (some (0, 0, 3)) = some (r1, r2, r3) := by rw [if_pos rfl] at H; exact H
             clear H
             have H := H1
             clear H1
             simp only [Option.some.injEq, Prod.mk.injEq] at H
             obtain ⟨rfl, rfl, rfl⟩ := H
             go_wp2
             go_ret3
             exact ⟨by first | rfl | (simp; done) | (simp only [← hji8] <;> (first | rfl | simp)) | (simp [*]; done), by repeat (first | exact Drawn0.refl _ | apply Drawn0.step)⟩
            ·replace c17 := Bool.eq_false_iff.mpr c17
             subst c17
             have H1 : (if 0 ≤ (wrap64 (7 * zavaq)) then (if (bt a0 (ji8)) < 128 then (some (Go.bits .or .u64 zavat (shl .u64 (IntKind.u64.wrap (Go.bits .and .u8 (bt a0 (ji8)) 127)) (wrap64 (7 * zavaq))), wrap64 ((wrap64 (a1 + zavaq)) + 1), 0)) else (octet_ReadNumber.l0 kj11 a0 a1 (Go.bits .or .u64 zavat (shl .u64 (IntKind.u64.wrap (Go.bits .and .u8 (bt a0 (ji8)) 127)) (wrap64 (7 * zavaq)))) (wrap64 (zavaq + 1)))) else (none)) = some (r1, r2, r3) := by rw [if_neg (show ¬ (false = true) by decide)] at H; exact H
             clear H
             have H := H1
             clear H1
             obtain ⟨ji18, hji18⟩ : ∃ j_ : Int, (wrap64 (7 * zavaq)) = j_ := ⟨_, rfl⟩
             replace H : (if 0 ≤ (ji18) then (if (bt a0 (ji8)) < 128 then (some (Go.bits .or .u64 zavat (shl .u64 (IntKind.u64.wrap (Go.bits .and .u8 (bt a0 (ji8)) 127)) (ji18)), wrap64 ((wrap64 (a1 + zavaq)) + 1), 0)) else (octet_ReadNumber.l0 kj11 a0 a1 (Go.bits .or .u64 zavat (shl .u64 (IntKind.u64.wrap (Go.bits .and .u8 (bt a0 (ji8)) 127)) (ji18))) (wrap64 (zavaq + 1)))) else (none)) = some (r1, r2, r3) := by first | (rw [hji18] at H; exact H) | (simp only [hji18] at H ⊢; exact H)
             have hji18w : (IntKind.i64.wrap (7 * zavaq)) = ji18 := (i64_w _).trans hji18
             by_cases c19 : 0 ≤ (ji18)
             ·rw [if_pos c19] at H
              have c19b0 := eq_true c19
              have c19b1 : decide (0 ≤ (ji18)) = true := decide_eq_true c19
              clear c19
              obtain ⟨ji20, hji20⟩ : ∃ j_ : Int, (shl .u64 (IntKind.u64.wrap (Go.bits .and .u8 (bt a0 (ji8)) 127)) (ji18)) = j_ := ⟨_, rfl⟩
              replace H : (if (bt a0 (ji8)) < 128 then (some (Go.bits .or .u64 zavat (ji20), wrap64 ((wrap64 (a1 + zavaq)) + 1), 0)) else (octet_ReadNumber.l0 kj11 a0 a1 (Go.bits .or .u64 zavat (ji20)) (wrap64 (zavaq + 1)))) = some (r1, r2, r3) := by first | (rw [hji20] at H; exact H) | (simp only [hji20] at H ⊢; exact H)
              have hji20_ : (IntKind.u64.wrap ((IntKind.u64.wrap (Go.bits .and .u8 (bt a0 (ji8)) 127)) * 2 ^ min (ji18).toNat 64)) = ji20 := hji20
              have hji20z : (ji18) ≤ 64 → (IntKind.u64.wrap ((IntKind.u64.wrap (Go.bits .and .u8 (bt a0 (ji8)) 127)) * 2 ^ (ji18).toNat)) = ji20 := shl_small hji20
              by_cases c21 : (bt a0 (ji8)) < 128
              ·rw [if_pos c21] at H
               have c21b0 : decide ((bt a0 (ji8)) < 128) = true := decide_eq_true c21
               clear c21
               simp only [Option.some.injEq, Prod.mk.injEq] at H
               obtain ⟨rfl, rfl, rfl⟩ := H
               go_wp2
               go_ret3
               exact ⟨by first | rfl | (simp; done) | (simp only [← hji8, ← hji18, ← hji20] <;> (first | rfl | simp)) | (simp [*]; done), by repeat (first | exact Drawn0.refl _ | apply Drawn0.step)⟩
              ·rw [if_neg c21] at H
               have c21b0 : decide ((bt a0 (ji8)) < 128) = false := decide_eq_false c21
               clear c21
               have H' := zavan H
               clear H
               go_wp2
               go_roundg kj11
               case measure => have := HJ2.out; have := HK2.out; have := HJ11.out; omega
               case rel => exact ⟨(Go.bits .or .u64 zavat (ji20)), (wrap64 (zavaq + 1)), (by first | rfl | (simp; done) | (simp only [← hji20] <;> (first | rfl | simp)) | (simp [*]; done)), (by first | rfl | (simp; done) | (simp [*]; done)), H', ⟨by have := HJ2.out; have := HK2.out; have := HJ11.out; omega⟩, by repeat (first | exact Drawn0.refl _ | apply Drawn0.step)⟩
             ·rw [if_neg c19] at H
              exact absurd H (by simp)
         ·rw [if_neg c10] at H
          exact absurd H (by simp)
        ·rw [if_neg c9] at H
         exact absurd H (by simp)
      ·rw [if_neg c6] at H
       have c6b0 : decide (zavaq < 10) = false := decide_eq_false c6
       clear c6
       simp only [Option.some.injEq, Prod.mk.injEq] at H
       obtain ⟨rfl, rfl, rfl⟩ := H
       go_wp2
       go_ret3
       exact ⟨by first | rfl | (simp; done) | (simp [*]; done), by repeat (first | exact Drawn0.refl _ | apply Drawn0.step)⟩

end Go.Proofs.Ytmpnaaegahjfkaa.Q