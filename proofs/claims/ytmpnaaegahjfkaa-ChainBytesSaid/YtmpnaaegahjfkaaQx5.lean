

/- Written by a program of this session (wip/patch_print.py over the kit's print): functions of the given program as plain Lean functions, and that each call does what its function says, under no further conditions. -/
import Derived.Test.YtmpnaaegahjfkaaQx0
import Derived.Test.YtmpnaaegahjfkaaQx4
namespace Go.Proofs.Ytmpnaaegahjfkaa.Q
open Go.RowKit Go.Proofs.YtmpnaaegahjfkaaW.PrintWords Go.Proofs.YtmpnaaegahjfkaaW.PrintLast Go.Proofs.YtmpnaaegahjfkaaW.PrintMore
attribute [local go_sem] max2_int min2_int max_two min_two max_three min_three max_four min_four   -- for this text's walks alone
set_option linter.unusedVariables false
set_option linter.unusedSimpArgs false
attribute [local go_sem] xor_ones_u8 xor_ones_u16 xor_ones_u32 xor_ones_u64 cell_twice frozen_twice
abbrev zafaa := @List.setIfInBounds_toArray
abbrev zafab := @List.set_cons_zero
abbrev zafac := @List.set_cons_succ
abbrev zafad := @World.block_lt_of_cell?
abbrev zafae := @blk_drewN
abbrev zafaf := @blk_alloc
abbrev zafag := @blk_drew
abbrev zafah := @below_set
abbrev zafai := @pw_below_drewN
abbrev zafaj := @below_drew1
abbrev zafak := @below_alloc
abbrev zafal := @blk_cell
abbrev zafam := @blk_frozen
abbrev zafan := @Aside0.mk
abbrev zafsq0 : Array Bool := #[false, false, false, false, false, false, false, false, false, false, false, false, false, false, false, false, false, false]
abbrev zafsq1 : Array Bool := #[true, false, false, false, false, false, false, false, false, false, false, false, false, false, false, false, false, false]
abbrev zafsq2 : Array Bool := #[true, true, false, false, false, false, false, false, false, false, false, false, false, false, false, false, false, false]
abbrev zafsq3 : Array Bool := #[true, true, true, false, false, false, false, false, false, false, false, false, false, false, false, false, false, false]
abbrev zafsq4 : Array Bool := #[true, true, true, true, false, false, false, false, false, false, false, false, false, false, false, false, false, false]
abbrev zafsq5 : Array Bool := #[true, true, true, true, true, false, false, false, false, false, false, false, false, false, false, false, false, false]
abbrev zafsq6 : Array Bool := #[true, true, true, true, true, true, false, false, false, false, false, false, false, false, false, false, false, false]
abbrev zafsq7 : Array Bool := #[true, true, true, true, true, true, true, false, false, false, false, false, false, false, false, false, false, false]
abbrev zafsq8 : Array Bool := #[true, true, true, true, true, true, true, true, false, false, false, false, false, false, false, false, false, false]
abbrev zafsq9 : Array Bool := #[true, true, true, true, true, true, true, true, false, true, false, false, false, false, false, false, false, false]
abbrev zafsq10 : Array Bool := #[true, true, true, true, true, true, true, true, false, true, true, false, false, false, false, false, false, false]
abbrev zafsq11 : Array Bool := #[true, true, true, true, true, true, true, true, false, true, true, true, false, false, false, false, false, false]
abbrev zafsq12 : Array Bool := #[true, true, true, true, true, true, true, true, false, true, true, true, true, false, false, false, false, false]
abbrev zafsq13 : Array Bool := #[true, true, true, true, true, true, true, true, false, true, true, true, true, true, false, false, false, false]
abbrev zafsq14 : Array Bool := #[true, true, true, true, true, true, true, true, true, true, true, true, true, true, false, false, false, false]
abbrev zafsq15 : Array Bool := #[true, true, true, true, true, true, true, true, true, true, true, true, true, true, true, false, false, false]
abbrev zafsq16 : Array Bool := #[true, true, true, true, true, true, true, true, true, true, true, true, true, true, true, true, false, false]
abbrev zafsq17 : Array Bool := #[true, true, true, true, true, true, true, true, true, true, true, true, true, true, true, true, true, false]
abbrev zafsq18 : Array Bool := #[true, true, true, true, true, true, true, true, true, true, true, true, true, true, true, true, true, true]
abbrev zafsq19 : Array Bool := #[true, true, true, true, true, true, true, true, true, false, false, false, false, false, false, false, false, false]
abbrev zafsq20 : Array Bool := #[true, true, true, true, true, true, true, true, true, true, false, false, false, false, false, false, false, false]
abbrev zafsq21 : Array Bool := #[true, true, true, true, true, true, true, true, true, true, true, false, false, false, false, false, false, false]
abbrev zafsq22 : Array Bool := #[true, true, true, true, true, true, true, true, true, true, true, true, false, false, false, false, false, false]
abbrev zafsq23 : Array Bool := #[true, true, true, true, true, true, true, true, true, true, true, true, true, false, false, false, false, false]
/-! ### chain_right: function 37 -/
def chain_right.l0 : Nat → List (S24) → List (S24) → Int → Int → Option (Bool)
 | 0, _, _, _, _ => none
 | k + 1, x0, x5, x6, x7 => if x7 < x6 then (if 0 ≤ x7 then (if x7 < (x5.length : Int) then ((chain_Check.f k ((rd_T24 x5 x7).f0) ((rd_T24 x5 x7).f1) ((rd_T24 x5 x7).f2) ((rd_T24 x5 x7).f3) ((rd_T24 x5 x7).f4)).bind fun t124 => (if t124 = 0 then (if x7 > 0 then (if 0 ≤ (wrap64 (x7 - 1)) then (if (wrap64 (x7 - 1)) < (x0.length : Int) then (if ((rd_T24 x5 x7).f0) ≥ ((rd_T24 x0 (wrap64 (x7 - 1))).f0) then (some false) else (chain_right.l0 k x0 x5 x6 (wrap64 (x7 + 1)))) else (none)) else (none)) else (chain_right.l0 k x0 x5 x6 (wrap64 (x7 + 1)))) else (some false))) else (none)) else (none)) else (some (decide ((x0.length : Int) ≤ 32)))
def chain_right.f (k : Nat) (l0 : List (S24)) : Option (Bool) := chain_right.l0 k l0 l0 (l0.length : Int) 0
theorem chain_right.mono_l : ∀ k, (∀ y0 y1 y2 y3, LeO (chain_right.l0 k y0 y1 y2 y3) (chain_right.l0 (k + 1) y0 y1 y2 y3))
 | 0 => fun _ _ _ _ r h => by simp [chain_right.l0] at h
 | k + 1 => by
  have ih0 := chain_right.mono_l k
  ·intro y0 y1 y2 y3
   unfold chain_right.l0
   repeat' first
   | (with_reducible exact ih0 _ _ _ _)
   | (with_reducible exact chain_Check.mono _ _ _ _ _ _)
   | (with_reducible exact LeO.refl _)
   | (with_reducible exact LeO.none _)
   | (with_reducible refine LeO.ite ?_ ?_)
   | (with_reducible refine LeO.bind ?_ (fun _ => ?_))
   | exact ih0 _ _ _ _
   | exact chain_Check.mono _ _ _ _ _ _
   | exact LeO.none _
   | refine LeO.ite ?_ ?_
   | refine LeO.bind ?_ (fun _ => ?_)
theorem chain_right.mono : ∀ a0 k, LeO (chain_right.f k a0) (chain_right.f (k + 1) a0) := by
 intro a0 k
 have ih0 := chain_right.mono_l k
 unfold chain_right.f
 repeat' first
   | (with_reducible exact ih0 _ _ _ _)
   | (with_reducible exact chain_Check.mono _ _ _ _ _ _)
   | (with_reducible exact LeO.refl _)
   | (with_reducible exact LeO.none _)
   | (with_reducible refine LeO.ite ?_ ?_)
   | (with_reducible refine LeO.bind ?_ (fun _ => ?_))
   | exact ih0 _ _ _ _
   | exact chain_Check.mono _ _ _ _ _ _
   | exact LeO.none _
   | refine LeO.ite ?_ ?_
   | refine LeO.bind ?_ (fun _ => ?_)
def chain_right.T4 : Bool × List (List Nat × List Nat) := (true, [([], []), ([0], [0]), ([1], [1]), ([2, 1], [2]), ([3], [3]), ([4, 3], [3, 4]), ([5, 3, 3], [3, 5]), ([6], [6]), ([7, 6], [6, 7]), ([6], [6]), ([6], [6]), ([10, 6], [6, 10]), ([9, 11, 6], [6, 9, 11]), ([12, 6], [6, 12]), ([13, 6], [6, 13]), ([8, 14, 6], [6, 8, 14]), ([6, 15, 3], [3, 6, 15]), ([3, 16], [3, 16])])
def chain_right.B4 : List Nat := [0, 1, 3, 7, 15, 31, 63, 127, 255, 127, 127, 1151, 3711, 7807, 15999, 32767, 65535, 131071]
theorem chain_right.tab4 : rtab .any (opsOf Try.f37 4) = chain_right.T4 := by kernel_rfl
theorem chain_right.bits4 : waitsOk chain_right.T4.2 chain_right.B4 = true := by kernel_rfl
set_option maxHeartbeats 8000000 in
set_option maxRecDepth 100000 in
theorem chain_right.calls (k : Nat) (A0 : Option Addr) (c0 : Nat) (l0 : List (S24)) (r : Bool) (w : World) (hr0 : Kd.C k24 w A0 l0.length l0) (hc0 : l0.length ≤ c0) (h : chain_right.f k l0 = some r) :
  Calls Try.prog 37 #[.slice A0 l0.length c0] w fun e w' => e = .returned (.bool r) ∧ Below w.heap.size w w' := by
 have hu24 := Try.underlying24
 have HR0 := zafan hr0
 have HC0 := zafan hc0
 clear hr0 hc0
 have HB := zafan (Below.refl w.heap.size w)
 have H : (chain_right.l0 k l0 l0 (l0.length : Int) 0) = some r := h
 clear h
 have H' := zafan H
 clear H
 go_enter Try.func37, Try.ntmps37
 go_wp2
 go_loopg [7] k (fun kq v7 w' => ∃ (zafao : Int), v7 = .int .i64 zafao ∧ Aside0 (chain_right.l0 kq l0 l0 (l0.length : Int) zafao = some r) ∧ Aside0 (kq ≤ k) ∧ Aside0 (Below w.heap.size w w'))
 case atStart => exact ⟨(0), (by first | rfl | (simp; done) | (simp [*]; done)), H', ⟨Nat.le_refl _⟩, ⟨zh0 HB⟩⟩
 case round =>
  clear H'
  obtain ⟨zafao, rfl, HA, HK1, HB⟩ := hrel
  cases gk with
  | zero => exact absurd HA.out (by simp [chain_right.l0])
  | succ k1 =>
   have H := HA.out
   clear HA
   simp only [chain_right.l0] at H
   by_cases c2 : zafao < (l0.length : Int)
   ·rw [if_pos c2] at H
    have c2b0 : decide (zafao < (l0.length : Int)) = true := decide_eq_true c2
    clear c2
    by_cases c3 : 0 ≤ zafao
    ·rw [if_pos c3] at H
     have c3b0 : decide (0 ≤ zafao) = true := decide_eq_true c3
     clear c3
     by_cases c4 : zafao < (l0.length : Int)
     ·rw [if_pos c4] at H
      have c4b0 : decide (zafao < (l0.length : Int)) = true := decide_eq_true c4
      clear c4
      replace H := Option.bind_eq_some_iff.mp H
      obtain ⟨t124, A50, H⟩ := H
      replace H : (if t124 = 0 then (if zafao > 0 then (if 0 ≤ (wrap64 (zafao - 1)) then (if (wrap64 (zafao - 1)) < (l0.length : Int) then (if ((rd_T24 l0 zafao).f0) ≥ ((rd_T24 l0 (wrap64 (zafao - 1))).f0) then (some false) else (chain_right.l0 k1 l0 l0 (l0.length : Int) (wrap64 (zafao + 1)))) else (none)) else (none)) else (chain_right.l0 k1 l0 l0 (l0.length : Int) (wrap64 (zafao + 1)))) else (some false)) = some r := H
      have A5 := zafan A50
      clear A50
      by_cases c6 : t124 = 0
      ·rw [if_pos c6] at H
       have c6b0 : (t124 == 0) = true := beq_iff_eq.mpr c6
       have c6b1 : (t124 != 0) = false := bne_eq_false_iff_eq.mpr c6
       clear c6
       by_cases c7 : zafao > 0
       ·rw [if_pos c7] at H
        have c7b0 : decide (0 < zafao) = true := decide_eq_true c7
        clear c7
        obtain ⟨ji8, hji8⟩ : ∃ j_ : Int, (wrap64 (zafao - 1)) = j_ := ⟨_, rfl⟩
        replace H : (if 0 ≤ (ji8) then (if (ji8) < (l0.length : Int) then (if ((rd_T24 l0 zafao).f0) ≥ ((rd_T24 l0 (ji8)).f0) then (some false) else (chain_right.l0 k1 l0 l0 (l0.length : Int) (wrap64 (zafao + 1)))) else (none)) else (none)) = some r := by first | (rw [hji8] at H; exact H) | (simp only [hji8] at H ⊢; exact H)
        (try rw [hji8] at A5)
        have hji8w : (IntKind.i64.wrap (zafao - 1)) = ji8 := (i64_w _).trans hji8
        by_cases c9 : 0 ≤ (ji8)
        ·rw [if_pos c9] at H
         have c9b0 : decide (0 ≤ (ji8)) = true := decide_eq_true c9
         clear c9
         by_cases c10 : (ji8) < (l0.length : Int)
         ·rw [if_pos c10] at H
          have c10b0 : decide ((ji8) < (l0.length : Int)) = true := decide_eq_true c10
          clear c10
          by_cases c11 : ((rd_T24 l0 zafao).f0) ≥ ((rd_T24 l0 (ji8)).f0)
          ·rw [if_pos c11] at H
           have c11b0 : decide (((rd_T24 l0 (ji8)).f0) ≤ ((rd_T24 l0 zafao).f0)) = true := decide_eq_true c11
           clear c11
           obtain rfl := Option.some.inj H
           have p122 : 0 ≤ (zafao : Int) := of_decide_eq_true (by first | (with_reducible assumption) | assumption)
           have q122 : zafao < (l0.length : Int) := of_decide_eq_true (by first | (with_reducible assumption) | assumption)
           obtain ⟨ad122, A122_4, c122_4, e122, hx122_0, hx122_1, hx122_2, hx122_3, hx122_4, hl122_4, hi122_4⟩ := at_T24 HR0.out zafao p122 q122
           cases e122
           replace hx122_0 := (HB.out.cell (zafad w _ hx122_0)).trans hx122_0
           replace hx122_1 := (HB.out.cell (zafad w _ hx122_1)).trans hx122_1
           replace hx122_2 := (HB.out.cell (zafad w _ hx122_2)).trans hx122_2
           replace hx122_3 := (HB.out.cell (zafad w _ hx122_3)).trans hx122_3
           replace hx122_4 := (HB.out.cell (zafad w _ hx122_4)).trans hx122_4
           have HR122_4 := zafan hi122_4
           have HC122_4 := zafan hl122_4
           clear hi122_4 hl122_4
           replace p122 := eq_true p122
           replace q122 := eq_true q122
           try go_wp2_with (first | ((with_reducible refine gate_dst (N := 4) rfl ?_); refine box_event ?hg (N := 4) ?hd (cs := #[.int .i64 0, .bool false, .int .i64 0, .string (⟨#[]⟩ : ByteArray), .slice none 0 0]) (t := 24) ?hr ?_; (case hd => rfl); (case hg => rfl); (case hr => first | (go_simp; done) | (go_simp; rfl)); intro zafaq hg w12 hbox hb; have n0_ := zafan (below_step (zh0 HB) hb); have n1_ := zafan (hbox); have n2_ := zns hg (zh0 HB); have n3_ := zns hg (zh0 HB); clear HB; have HB := n0_; have zafap := n1_; have zafas := n2_; have zafar := n3_; clear n0_ n1_ n2_ n3_; clear hb hbox hg; have zafat : w12.cell? ⟨zafaq, 0, none⟩ = some (.int .i64 0) := (zafal zafap.out 0).trans rfl; have zafau : w12.cell? ⟨zafaq, 1, none⟩ = some (.bool false) := (zafal zafap.out 1).trans rfl; have zafav : w12.cell? ⟨zafaq, 2, none⟩ = some (.int .i64 0) := (zafal zafap.out 2).trans rfl; have zafaw : w12.cell? ⟨zafaq, 3, none⟩ = some (.string (⟨#[]⟩ : ByteArray)) := (zafal zafap.out 3).trans rfl; have zafax : w12.cell? ⟨zafaq, 4, none⟩ = some (.slice none 0 0) := (zafal zafap.out 4).trans rfl; have zafay := zafam zafap.out 0; have zafaz := zafam zafap.out 1; have zafba := zafam zafap.out 2; have zafbb := zafam zafap.out 3; have zafbc := zafam zafap.out 4))
           have n0_ : Aside0 ((((((w12.setCell ⟨zafaq, 0, none⟩ (.int .i64 ((rd_T24 l0 zafao).f0))).setCell ⟨zafaq, 1, none⟩ (.bool ((rd_T24 l0 zafao).f1))).setCell ⟨zafaq, 2, none⟩ (.int .i64 ((rd_T24 l0 zafao).f2))).setCell ⟨zafaq, 3, none⟩ (.string ((rd_T24 l0 zafao).f3))).setCell ⟨zafaq, 4, none⟩ (.slice A122_4 ((rd_T24 l0 zafao).f4).length c122_4)).heap[zafaq]? = some (.cells #[.int .i64 ((rd_T24 l0 zafao).f0), .bool ((rd_T24 l0 zafao).f1), .int .i64 ((rd_T24 l0 zafao).f2), .string ((rd_T24 l0 zafao).f3), .slice A122_4 ((rd_T24 l0 zafao).f4).length c122_4] 24 (0, 0))) := ⟨by (with_reducible repeat (first | refine zafae ?_ _ | refine zafag ?_ | refine zafaf ?_ _)); refine blk_put (cs := #[.int .i64 ((rd_T24 l0 zafao).f0), .bool ((rd_T24 l0 zafao).f1), .int .i64 ((rd_T24 l0 zafao).f2), .string ((rd_T24 l0 zafao).f3), .slice none 0 0]) ?_ 4 _ rfl; (with_reducible repeat (first | refine zafae ?_ _ | refine zafag ?_ | refine zafaf ?_ _)); refine blk_put (cs := #[.int .i64 ((rd_T24 l0 zafao).f0), .bool ((rd_T24 l0 zafao).f1), .int .i64 ((rd_T24 l0 zafao).f2), .string (⟨#[]⟩ : ByteArray), .slice none 0 0]) ?_ 3 _ rfl; (with_reducible repeat (first | refine zafae ?_ _ | refine zafag ?_ | refine zafaf ?_ _)); refine blk_put (cs := #[.int .i64 ((rd_T24 l0 zafao).f0), .bool ((rd_T24 l0 zafao).f1), .int .i64 0, .string (⟨#[]⟩ : ByteArray), .slice none 0 0]) ?_ 2 _ rfl; (with_reducible repeat (first | refine zafae ?_ _ | refine zafag ?_ | refine zafaf ?_ _)); refine blk_put (cs := #[.int .i64 ((rd_T24 l0 zafao).f0), .bool false, .int .i64 0, .string (⟨#[]⟩ : ByteArray), .slice none 0 0]) ?_ 1 _ rfl; (with_reducible repeat (first | refine zafae ?_ _ | refine zafag ?_ | refine zafaf ?_ _)); refine blk_put (cs := #[.int .i64 0, .bool false, .int .i64 0, .string (⟨#[]⟩ : ByteArray), .slice none 0 0]) ?_ 0 _ rfl; exact zbk zafap⟩
           have n1_ : Aside0 (Below w.heap.size w (((((w12.setCell ⟨zafaq, 0, none⟩ (.int .i64 ((rd_T24 l0 zafao).f0))).setCell ⟨zafaq, 1, none⟩ (.bool ((rd_T24 l0 zafao).f1))).setCell ⟨zafaq, 2, none⟩ (.int .i64 ((rd_T24 l0 zafao).f2))).setCell ⟨zafaq, 3, none⟩ (.string ((rd_T24 l0 zafao).f3))).setCell ⟨zafaq, 4, none⟩ (.slice A122_4 ((rd_T24 l0 zafao).f4).length c122_4))) := ⟨zh1 HB zafar⟩
           (try clear zafap)
           (try clear HB)
           generalize (((((w12.setCell ⟨zafaq, 0, none⟩ (.int .i64 ((rd_T24 l0 zafao).f0))).setCell ⟨zafaq, 1, none⟩ (.bool ((rd_T24 l0 zafao).f1))).setCell ⟨zafaq, 2, none⟩ (.int .i64 ((rd_T24 l0 zafao).f2))).setCell ⟨zafaq, 3, none⟩ (.string ((rd_T24 l0 zafao).f3))).setCell ⟨zafaq, 4, none⟩ (.slice A122_4 ((rd_T24 l0 zafao).f4).length c122_4)) = w14 at n0_ n1_ ⊢
           have zafap := n0_
           have HB := n1_
           clear n0_ n1_
           have n0_ := zafan (zafag zafap.out)
           have n1_ := zafan (zafaj HB.out)
           clear zafap
           clear HB
           have zafap := n0_
           have HB := n1_
           clear n0_ n1_
           have p125 : 0 ≤ ((ji8) : Int) := of_decide_eq_true (by first | (with_reducible assumption) | assumption)
           have q125 : (ji8) < (l0.length : Int) := of_decide_eq_true (by first | (with_reducible assumption) | assumption)
           obtain ⟨ad125, A125_4, c125_4, e125, hx125_0, hx125_1, hx125_2, hx125_3, hx125_4, hl125_4, hi125_4⟩ := at_T24 HR0.out (ji8) p125 q125
           have hw125_4 := hx125_4
           have hw125_3 := hx125_3
           have hw125_2 := hx125_2
           have hw125_1 := hx125_1
           have hw125_0 := hx125_0
           obtain rfl : ad122 = ad125 := (by injection e125)
           replace hx125_0 := (HB.out.cell (zafad w _ hx125_0)).trans hx125_0
           replace hx125_1 := (HB.out.cell (zafad w _ hx125_1)).trans hx125_1
           replace hx125_2 := (HB.out.cell (zafad w _ hx125_2)).trans hx125_2
           replace hx125_3 := (HB.out.cell (zafad w _ hx125_3)).trans hx125_3
           replace hx125_4 := (HB.out.cell (zafad w _ hx125_4)).trans hx125_4
           have HR125_4 := zafan hi125_4
           have HC125_4 := zafan hl125_4
           clear hi125_4 hl125_4
           replace p125 := eq_true p125
           replace q125 := eq_true q125
           refine start_ (n := 18) (S := fun w' => w'.cell? ⟨zafaq, 0, none⟩ = some (.int .i64 ((rd_T24 l0 zafao).f0)) ∧ w'.cell? ⟨zafaq, 1, none⟩ = some (.bool ((rd_T24 l0 zafao).f1)) ∧ w'.cell? ⟨zafaq, 2, none⟩ = some (.int .i64 ((rd_T24 l0 zafao).f2)) ∧ w'.cell? ⟨zafaq, 3, none⟩ = some (.string ((rd_T24 l0 zafao).f3)) ∧ w'.cell? ⟨zafaq, 4, none⟩ = some (.slice A122_4 ((rd_T24 l0 zafao).f4).length c122_4) ∧ w'.cell? (ad122.add (((ji8)).toNat * 5)) = some (.int .i64 ((rd_T24 l0 (ji8)).f0)) ∧ w'.cell? ⟨(ad122.add (((ji8)).toNat * 5)).block, (ad122.add (((ji8)).toNat * 5)).off + 1, none⟩ = some (.bool ((rd_T24 l0 (ji8)).f1)) ∧ w'.cell? ⟨(ad122.add (((ji8)).toNat * 5)).block, (ad122.add (((ji8)).toNat * 5)).off + 2, none⟩ = some (.int .i64 ((rd_T24 l0 (ji8)).f2)) ∧ w'.cell? ⟨(ad122.add (((ji8)).toNat * 5)).block, (ad122.add (((ji8)).toNat * 5)).off + 3, none⟩ = some (.string ((rd_T24 l0 (ji8)).f3)) ∧ w'.cell? ⟨(ad122.add (((ji8)).toNat * 5)).block, (ad122.add (((ji8)).toNat * 5)).off + 4, none⟩ = some (.slice A125_4 ((rd_T24 l0 (ji8)).f4).length c125_4)) (ds := []) zafsq0 (by kernel_rfl) rfl rfl ⟨(zafal zafap.out 0).trans rfl, (zafal zafap.out 1).trans rfl, (zafal zafap.out 2).trans rfl, (zafal zafap.out 3).trans rfl, (zafal zafap.out 4).trans rfl, ((HB.out.cell (zafad w _ hw125_0)).trans hw125_0), ((HB.out.cell (zafad w _ hw125_1)).trans hw125_1), ((HB.out.cell (zafad w _ hw125_2)).trans hw125_2), ((HB.out.cell (zafad w _ hw125_3)).trans hw125_3), ((HB.out.cell (zafad w _ hw125_4)).trans hw125_4)⟩ (fun hHeld => ?_); refine with_tabW chain_right.tab4 chain_right.bits4 (fun HT_ HW_ => ?_)
           generalize w14.drew = w15 at zafap HB HR125_4 hx125_0 hx125_1 hx125_2 hx125_3 hx125_4 hHeld ⊢
           refine take_ (i := 0) (N := some 12) (v := ?_) (a' := ?_) zafsq1 rfl rfl (take_ofW HT_.out HW_.out (by kernel_rfl)) (fun _ _ _ h => h) (Or.inl ⟨by rfl, ?_⟩) hHeld ?_ ?_
           rotate_left
           ·rintro w' ⟨s0, s1, s2, s3, s4, s5, s6, s7, s8, s9⟩
            go_simp
            with_reducible rfl
           rotate_left
           ·simp only [Act.put, zafaa, zafab, zafac, i64_w, i32_w]
            rfl
           refine one_ (i := 1) (N := some 13) zafsq2 rfl rfl (one_of HT_.out (by kernel_rfl)) (by decide) (fun K hK => ?_)
           refine goes_ Try.func13 (by kernel_rfl) rfl #[.agg #[.int .i64 ((rd_T24 l0 zafao).f0), .bool ((rd_T24 l0 zafao).f1), .int .i64 ((rd_T24 l0 zafao).f2), .string ((rd_T24 l0 zafao).f3), .slice A122_4 ((rd_T24 l0 zafao).f4).length c122_4]] (by rfl) rfl rfl (by (try simp only [List.map_toArray, List.map_cons, List.map_nil]); first | done | rfl) ?_
           with_reducible refine (chain_Check.calls k1 ((rd_T24 l0 zafao).f0) ((rd_T24 l0 zafao).f1) ((rd_T24 l0 zafao).f2) ((rd_T24 l0 zafao).f3) _ _ ((rd_T24 l0 zafao).f4) t124 _ ?side1 ?side2 A5.out).mono ?_
           (case side1 => repeat (first | exact (Kd.C_below HR122_4.out HB.out) | (with_reducible refine Kd.C_alloc ?_ _) | (with_reducible refine Kd.C_drewN ?_ _) | (with_reducible refine Kd.C_drew ?_)))
           (case side2 => exact HC122_4.out)
           rintro e w16 ⟨rfl, hb⟩
           refine ⟨_, rfl, ?_⟩
           have n0_ := zbb zafap hb
           have n1_ := zafan (below_step (zh1 HB zafar) hb)
           clear zafap
           clear HB
           have zafap := n0_
           have HB := n1_
           clear n0_ n1_
           (try clear hb)
           (try clear hb2)
           (try clear hk)
           (try clear hi)
           refine hK.out _ _ ⟨(zafal zafap.out 0).trans rfl, (zafal zafap.out 1).trans rfl, (zafal zafap.out 2).trans rfl, (zafal zafap.out 3).trans rfl, (zafal zafap.out 4).trans rfl, ((HB.out.cell (zafad w _ hw125_0)).trans hw125_0), ((HB.out.cell (zafad w _ hw125_1)).trans hw125_1), ((HB.out.cell (zafad w _ hw125_2)).trans hw125_2), ((HB.out.cell (zafad w _ hw125_3)).trans hw125_3), ((HB.out.cell (zafad w _ hw125_4)).trans hw125_4)⟩ (fun hHeld => ?_)
           clear hK K
           refine norm_ (a' := ?_) ?_ ?_
           rotate_left
           ·show Act.put _ (some 13) _ = _
            simp only [Act.put, zafaa, zafab, zafac, i64_w, i32_w]
            rfl
           refine pure_ (i := 2) (N := some 14) (v := ?_) (a' := ?_) zafsq3 rfl rfl (any_of HT_.out (by kernel_rfl)) (fun _ _ _ h => h) (Or.inl ⟨by rfl, ?_⟩) ?_ ?_
           rotate_left
           ·intro w'
            go_simp
            with_reducible rfl
           rotate_left
           ·simp only [Act.put, zafaa, zafab, zafac, i64_w, i32_w]
            rfl
           refine pure_ (i := 3) (N := some 15) (v := ?_) (a' := ?_) zafsq4 rfl rfl (any_of HT_.out (by kernel_rfl)) (fun _ _ _ h => h) (Or.inl ⟨by rfl, ?_⟩) ?_ ?_
           rotate_left
           ·intro w'
            go_simp
            with_reducible rfl
           rotate_left
           ·simp only [Act.put, zafaa, zafab, zafac, i64_w, i32_w]
            rfl
           refine pure_ (i := 4) (N := some 16) (v := ?_) (a' := ?_) zafsq5 rfl rfl (any_of HT_.out (by kernel_rfl)) (fun _ _ _ h => h) (Or.inl ⟨by rfl, ?_⟩) ?_ ?_
           rotate_left
           ·intro w'
            go_simp
            with_reducible rfl
           rotate_left
           ·simp only [Act.put, zafaa, zafab, zafac, i64_w, i32_w]
            rfl
           refine pure_ (i := 5) (N := some 17) (v := ?_) (a' := ?_) zafsq6 rfl rfl (any_of HT_.out (by kernel_rfl)) (fun _ _ _ h => h) (Or.inl ⟨by rfl, ?_⟩) ?_ ?_
           rotate_left
           ·intro w'
            go_simp
            with_reducible rfl
           rotate_left
           ·simp only [Act.put, zafaa, zafab, zafac, i64_w, i32_w]
            rfl
           refine pure_ (i := 6) (N := some 18) (v := ?_) (a' := ?_) zafsq7 rfl rfl (any_of HT_.out (by kernel_rfl)) (fun _ _ _ h => h) (Or.inl ⟨by rfl, ?_⟩) ?_ ?_
           rotate_left
           ·intro w'
            go_simp
            with_reducible rfl
           rotate_left
           ·simp only [Act.put, zafaa, zafab, zafac, i64_w, i32_w]
            rfl
           refine pure_ (i := 7) (N := some 19) (v := ?_) (a' := ?_) zafsq8 rfl rfl (any_of HT_.out (by kernel_rfl)) (fun _ _ _ h => h) (Or.inl ⟨by rfl, ?_⟩) ?_ ?_
           rotate_left
           ·intro w'
            go_simp
            with_reducible rfl
           rotate_left
           ·simp only [Act.put, zafaa, zafab, zafac, i64_w, i32_w]
            rfl
           refine pure_ (i := 9) (N := some 21) (v := ?_) (a' := ?_) zafsq9 rfl rfl (any_of HT_.out (by kernel_rfl)) (fun _ _ _ h => h) (Or.inl ⟨by rfl, ?_⟩) ?_ ?_
           rotate_left
           ·intro w'
            go_simp
            with_reducible rfl
           rotate_left
           ·simp only [Act.put, zafaa, zafab, zafac, i64_w, i32_w]
            rfl
           refine pure_ (i := 10) (N := some 22) (v := ?_) (a' := ?_) zafsq10 rfl rfl (any_of HT_.out (by kernel_rfl)) (fun _ _ _ h => h) (Or.inl ⟨by rfl, ?_⟩) ?_ ?_
           rotate_left
           ·intro w'
            go_simp
            with_reducible rfl
           rotate_left
           ·simp only [Act.put, zafaa, zafab, zafac, i64_w, i32_w]
            rfl
           refine pure_ (i := 11) (N := some 23) (v := ?_) (a' := ?_) zafsq11 rfl rfl (any_of HT_.out (by kernel_rfl)) (fun _ _ _ h => h) (Or.inl ⟨by rfl, ?_⟩) ?_ ?_
           rotate_left
           ·intro w'
            go_simp
            with_reducible rfl
           rotate_left
           ·simp only [Act.put, zafaa, zafab, zafac, i64_w, i32_w]
            rfl
           refine pure_ (i := 12) (N := some 24) (v := ?_) (a' := ?_) zafsq12 rfl rfl (any_of HT_.out (by kernel_rfl)) (fun _ _ _ h => h) (Or.inl ⟨by rfl, ?_⟩) ?_ ?_
           rotate_left
           ·intro w'
            go_simp
            with_reducible rfl
           rotate_left
           ·simp only [Act.put, zafaa, zafab, zafac, i64_w, i32_w]
            rfl
           refine pure_ (i := 13) (N := some 25) (v := ?_) (a' := ?_) zafsq13 rfl rfl (any_of HT_.out (by kernel_rfl)) (fun _ _ _ h => h) (Or.inl ⟨by rfl, ?_⟩) ?_ ?_
           rotate_left
           ·intro w'
            go_simp
            with_reducible rfl
           rotate_left
           ·simp only [Act.put, zafaa, zafab, zafac, i64_w, i32_w]
            rfl
           refine take_ (i := 8) (N := some 20) (v := ?_) (a' := ?_) zafsq14 rfl rfl (take_ofW HT_.out HW_.out (by kernel_rfl)) (fun _ _ _ h => h) (Or.inl ⟨by rfl, ?_⟩) hHeld ?_ ?_
           rotate_left
           ·rintro w' ⟨s0, s1, s2, s3, s4, s5, s6, s7, s8, s9⟩
            go_simp
            with_reducible rfl
           rotate_left
           ·simp only [Act.put, zafaa, zafab, zafac, i64_w, i32_w]
            rfl
           refine take_ (i := 14) (N := some 26) (v := ?_) (a' := ?_) zafsq15 rfl rfl (take_ofW HT_.out HW_.out (by kernel_rfl)) (fun _ _ _ h => h) (Or.inl ⟨by rfl, ?_⟩) hHeld ?_ ?_
           rotate_left
           ·rintro w' ⟨s0, s1, s2, s3, s4, s5, s6, s7, s8, s9⟩
            go_simp
            with_reducible rfl
           rotate_left
           ·simp only [Act.put, zafaa, zafab, zafac, i64_w, i32_w]
            rfl
           refine pure_ (i := 15) (N := some 27) (v := ?_) (a' := ?_) zafsq16 rfl rfl (any_of HT_.out (by kernel_rfl)) (fun _ _ _ h => h) (Or.inl ⟨by rfl, ?_⟩) ?_ ?_
           rotate_left
           ·intro w'
            go_simp
            with_reducible rfl
           rotate_left
           ·simp only [Act.put, zafaa, zafab, zafac, i64_w, i32_w]
            rfl
           refine pure_ (i := 16) (N := some 28) (v := ?_) (a' := ?_) zafsq17 rfl rfl (any_of HT_.out (by kernel_rfl)) (fun _ _ _ h => h) (Or.inl ⟨by rfl, ?_⟩) ?_ ?_
           rotate_left
           ·intro w'
            go_simp
            with_reducible rfl
           rotate_left
           ·simp only [Act.put, zafaa, zafab, zafac, i64_w, i32_w]
            rfl
           refine pure_ (i := 17) (N := some 29) (v := ?_) (a' := ?_) zafsq18 rfl rfl (any_of HT_.out (by kernel_rfl)) (fun _ _ _ h => h) (Or.inl ⟨by rfl, ?_⟩) ?_ ?_
           rotate_left
           ·intro w'
            go_simp
            with_reducible rfl
           rotate_left
           ·simp only [Act.put, zafaa, zafab, zafac, i64_w, i32_w]
            rfl
           refine done_ (done_of HT_.out (by kernel_rfl)) ?_
           try go_wp2
           go_ret
           exact ⟨by first | rfl | (simp [errW_none, errW_some] <;> rfl) | (simp only [← hji8]; first | rfl | (simp [errW_none, errW_some] <;> rfl)) | (simp [*, errW_none, errW_some] <;> rfl), zh1 HB zafar⟩
          ·rw [if_neg c11] at H
           have c11b0 : decide (((rd_T24 l0 (ji8)).f0) ≤ ((rd_T24 l0 zafao).f0)) = false := decide_eq_false c11
           clear c11
           have H' := zafan H
           clear H
           have p122 : 0 ≤ (zafao : Int) := of_decide_eq_true (by first | (with_reducible assumption) | assumption)
           have q122 : zafao < (l0.length : Int) := of_decide_eq_true (by first | (with_reducible assumption) | assumption)
           obtain ⟨ad122, A122_4, c122_4, e122, hx122_0, hx122_1, hx122_2, hx122_3, hx122_4, hl122_4, hi122_4⟩ := at_T24 HR0.out zafao p122 q122
           cases e122
           replace hx122_0 := (HB.out.cell (zafad w _ hx122_0)).trans hx122_0
           replace hx122_1 := (HB.out.cell (zafad w _ hx122_1)).trans hx122_1
           replace hx122_2 := (HB.out.cell (zafad w _ hx122_2)).trans hx122_2
           replace hx122_3 := (HB.out.cell (zafad w _ hx122_3)).trans hx122_3
           replace hx122_4 := (HB.out.cell (zafad w _ hx122_4)).trans hx122_4
           have HR122_4 := zafan hi122_4
           have HC122_4 := zafan hl122_4
           clear hi122_4 hl122_4
           replace p122 := eq_true p122
           replace q122 := eq_true q122
           try go_wp2_with (first | ((with_reducible refine gate_dst (N := 4) rfl ?_); refine box_event ?hg (N := 4) ?hd (cs := #[.int .i64 0, .bool false, .int .i64 0, .string (⟨#[]⟩ : ByteArray), .slice none 0 0]) (t := 24) ?hr ?_; (case hd => rfl); (case hg => rfl); (case hr => first | (go_simp; done) | (go_simp; rfl)); intro zafaq hg w17 hbox hb; have n0_ := zafan (below_step (zh0 HB) hb); have n1_ := zafan (hbox); have n2_ := zns hg (zh0 HB); have n3_ := zns hg (zh0 HB); clear HB; have HB := n0_; have zafap := n1_; have zafas := n2_; have zafar := n3_; clear n0_ n1_ n2_ n3_; clear hb hbox hg; have zafbd : w17.cell? ⟨zafaq, 0, none⟩ = some (.int .i64 0) := (zafal zafap.out 0).trans rfl; have zafbe : w17.cell? ⟨zafaq, 1, none⟩ = some (.bool false) := (zafal zafap.out 1).trans rfl; have zafbf : w17.cell? ⟨zafaq, 2, none⟩ = some (.int .i64 0) := (zafal zafap.out 2).trans rfl; have zafbg : w17.cell? ⟨zafaq, 3, none⟩ = some (.string (⟨#[]⟩ : ByteArray)) := (zafal zafap.out 3).trans rfl; have zafbh : w17.cell? ⟨zafaq, 4, none⟩ = some (.slice none 0 0) := (zafal zafap.out 4).trans rfl; have zafbi := zafam zafap.out 0; have zafbj := zafam zafap.out 1; have zafbk := zafam zafap.out 2; have zafbl := zafam zafap.out 3; have zafbm := zafam zafap.out 4))
           have n0_ : Aside0 ((((((w17.setCell ⟨zafaq, 0, none⟩ (.int .i64 ((rd_T24 l0 zafao).f0))).setCell ⟨zafaq, 1, none⟩ (.bool ((rd_T24 l0 zafao).f1))).setCell ⟨zafaq, 2, none⟩ (.int .i64 ((rd_T24 l0 zafao).f2))).setCell ⟨zafaq, 3, none⟩ (.string ((rd_T24 l0 zafao).f3))).setCell ⟨zafaq, 4, none⟩ (.slice A122_4 ((rd_T24 l0 zafao).f4).length c122_4)).heap[zafaq]? = some (.cells #[.int .i64 ((rd_T24 l0 zafao).f0), .bool ((rd_T24 l0 zafao).f1), .int .i64 ((rd_T24 l0 zafao).f2), .string ((rd_T24 l0 zafao).f3), .slice A122_4 ((rd_T24 l0 zafao).f4).length c122_4] 24 (0, 0))) := ⟨by (with_reducible repeat (first | refine zafae ?_ _ | refine zafag ?_ | refine zafaf ?_ _)); refine blk_put (cs := #[.int .i64 ((rd_T24 l0 zafao).f0), .bool ((rd_T24 l0 zafao).f1), .int .i64 ((rd_T24 l0 zafao).f2), .string ((rd_T24 l0 zafao).f3), .slice none 0 0]) ?_ 4 _ rfl; (with_reducible repeat (first | refine zafae ?_ _ | refine zafag ?_ | refine zafaf ?_ _)); refine blk_put (cs := #[.int .i64 ((rd_T24 l0 zafao).f0), .bool ((rd_T24 l0 zafao).f1), .int .i64 ((rd_T24 l0 zafao).f2), .string (⟨#[]⟩ : ByteArray), .slice none 0 0]) ?_ 3 _ rfl; (with_reducible repeat (first | refine zafae ?_ _ | refine zafag ?_ | refine zafaf ?_ _)); refine blk_put (cs := #[.int .i64 ((rd_T24 l0 zafao).f0), .bool ((rd_T24 l0 zafao).f1), .int .i64 0, .string (⟨#[]⟩ : ByteArray), .slice none 0 0]) ?_ 2 _ rfl; (with_reducible repeat (first | refine zafae ?_ _ | refine zafag ?_ | refine zafaf ?_ _)); refine blk_put (cs := #[.int .i64 ((rd_T24 l0 zafao).f0), .bool false, .int .i64 0, .string (⟨#[]⟩ : ByteArray), .slice none 0 0]) ?_ 1 _ rfl; (with_reducible repeat (first | refine zafae ?_ _ | refine zafag ?_ | refine zafaf ?_ _)); refine blk_put (cs := #[.int .i64 0, .bool false, .int .i64 0, .string (⟨#[]⟩ : ByteArray), .slice none 0 0]) ?_ 0 _ rfl; exact zbk zafap⟩
           have n1_ : Aside0 (Below w.heap.size w (((((w17.setCell ⟨zafaq, 0, none⟩ (.int .i64 ((rd_T24 l0 zafao).f0))).setCell ⟨zafaq, 1, none⟩ (.bool ((rd_T24 l0 zafao).f1))).setCell ⟨zafaq, 2, none⟩ (.int .i64 ((rd_T24 l0 zafao).f2))).setCell ⟨zafaq, 3, none⟩ (.string ((rd_T24 l0 zafao).f3))).setCell ⟨zafaq, 4, none⟩ (.slice A122_4 ((rd_T24 l0 zafao).f4).length c122_4))) := ⟨zh1 HB zafar⟩
           (try clear zafap)
           (try clear HB)
           generalize (((((w17.setCell ⟨zafaq, 0, none⟩ (.int .i64 ((rd_T24 l0 zafao).f0))).setCell ⟨zafaq, 1, none⟩ (.bool ((rd_T24 l0 zafao).f1))).setCell ⟨zafaq, 2, none⟩ (.int .i64 ((rd_T24 l0 zafao).f2))).setCell ⟨zafaq, 3, none⟩ (.string ((rd_T24 l0 zafao).f3))).setCell ⟨zafaq, 4, none⟩ (.slice A122_4 ((rd_T24 l0 zafao).f4).length c122_4)) = w19 at n0_ n1_ ⊢
           have zafap := n0_
           have HB := n1_
           clear n0_ n1_
           have n0_ := zafan (zafag zafap.out)
           have n1_ := zafan (zafaj HB.out)
           clear zafap
           clear HB
           have zafap := n0_
           have HB := n1_
           clear n0_ n1_
           have p125 : 0 ≤ ((ji8) : Int) := of_decide_eq_true (by first | (with_reducible assumption) | assumption)
           have q125 : (ji8) < (l0.length : Int) := of_decide_eq_true (by first | (with_reducible assumption) | assumption)
           obtain ⟨ad125, A125_4, c125_4, e125, hx125_0, hx125_1, hx125_2, hx125_3, hx125_4, hl125_4, hi125_4⟩ := at_T24 HR0.out (ji8) p125 q125
           have hw125_4 := hx125_4
           have hw125_3 := hx125_3
           have hw125_2 := hx125_2
           have hw125_1 := hx125_1
           have hw125_0 := hx125_0
           obtain rfl : ad122 = ad125 := (by injection e125)
           replace hx125_0 := (HB.out.cell (zafad w _ hx125_0)).trans hx125_0
           replace hx125_1 := (HB.out.cell (zafad w _ hx125_1)).trans hx125_1
           replace hx125_2 := (HB.out.cell (zafad w _ hx125_2)).trans hx125_2
           replace hx125_3 := (HB.out.cell (zafad w _ hx125_3)).trans hx125_3
           replace hx125_4 := (HB.out.cell (zafad w _ hx125_4)).trans hx125_4
           have HR125_4 := zafan hi125_4
           have HC125_4 := zafan hl125_4
           clear hi125_4 hl125_4
           replace p125 := eq_true p125
           replace q125 := eq_true q125
           refine start_ (n := 18) (S := fun w' => w'.cell? ⟨zafaq, 0, none⟩ = some (.int .i64 ((rd_T24 l0 zafao).f0)) ∧ w'.cell? ⟨zafaq, 1, none⟩ = some (.bool ((rd_T24 l0 zafao).f1)) ∧ w'.cell? ⟨zafaq, 2, none⟩ = some (.int .i64 ((rd_T24 l0 zafao).f2)) ∧ w'.cell? ⟨zafaq, 3, none⟩ = some (.string ((rd_T24 l0 zafao).f3)) ∧ w'.cell? ⟨zafaq, 4, none⟩ = some (.slice A122_4 ((rd_T24 l0 zafao).f4).length c122_4) ∧ w'.cell? (ad122.add (((ji8)).toNat * 5)) = some (.int .i64 ((rd_T24 l0 (ji8)).f0)) ∧ w'.cell? ⟨(ad122.add (((ji8)).toNat * 5)).block, (ad122.add (((ji8)).toNat * 5)).off + 1, none⟩ = some (.bool ((rd_T24 l0 (ji8)).f1)) ∧ w'.cell? ⟨(ad122.add (((ji8)).toNat * 5)).block, (ad122.add (((ji8)).toNat * 5)).off + 2, none⟩ = some (.int .i64 ((rd_T24 l0 (ji8)).f2)) ∧ w'.cell? ⟨(ad122.add (((ji8)).toNat * 5)).block, (ad122.add (((ji8)).toNat * 5)).off + 3, none⟩ = some (.string ((rd_T24 l0 (ji8)).f3)) ∧ w'.cell? ⟨(ad122.add (((ji8)).toNat * 5)).block, (ad122.add (((ji8)).toNat * 5)).off + 4, none⟩ = some (.slice A125_4 ((rd_T24 l0 (ji8)).f4).length c125_4)) (ds := []) zafsq0 (by kernel_rfl) rfl rfl ⟨(zafal zafap.out 0).trans rfl, (zafal zafap.out 1).trans rfl, (zafal zafap.out 2).trans rfl, (zafal zafap.out 3).trans rfl, (zafal zafap.out 4).trans rfl, ((HB.out.cell (zafad w _ hw125_0)).trans hw125_0), ((HB.out.cell (zafad w _ hw125_1)).trans hw125_1), ((HB.out.cell (zafad w _ hw125_2)).trans hw125_2), ((HB.out.cell (zafad w _ hw125_3)).trans hw125_3), ((HB.out.cell (zafad w _ hw125_4)).trans hw125_4)⟩ (fun hHeld => ?_); refine with_tabW chain_right.tab4 chain_right.bits4 (fun HT_ HW_ => ?_)
           generalize w19.drew = w20 at zafap HB HR125_4 hx125_0 hx125_1 hx125_2 hx125_3 hx125_4 hHeld ⊢
           refine take_ (i := 0) (N := some 12) (v := ?_) (a' := ?_) zafsq1 rfl rfl (take_ofW HT_.out HW_.out (by kernel_rfl)) (fun _ _ _ h => h) (Or.inl ⟨by rfl, ?_⟩) hHeld ?_ ?_
           rotate_left
           ·rintro w' ⟨s0, s1, s2, s3, s4, s5, s6, s7, s8, s9⟩
            go_simp
            with_reducible rfl
           rotate_left
           ·simp only [Act.put, zafaa, zafab, zafac, i64_w, i32_w]
            rfl
           refine one_ (i := 1) (N := some 13) zafsq2 rfl rfl (one_of HT_.out (by kernel_rfl)) (by decide) (fun K hK => ?_)
           refine goes_ Try.func13 (by kernel_rfl) rfl #[.agg #[.int .i64 ((rd_T24 l0 zafao).f0), .bool ((rd_T24 l0 zafao).f1), .int .i64 ((rd_T24 l0 zafao).f2), .string ((rd_T24 l0 zafao).f3), .slice A122_4 ((rd_T24 l0 zafao).f4).length c122_4]] (by rfl) rfl rfl (by (try simp only [List.map_toArray, List.map_cons, List.map_nil]); first | done | rfl) ?_
           with_reducible refine (chain_Check.calls k1 ((rd_T24 l0 zafao).f0) ((rd_T24 l0 zafao).f1) ((rd_T24 l0 zafao).f2) ((rd_T24 l0 zafao).f3) _ _ ((rd_T24 l0 zafao).f4) t124 _ ?side1 ?side2 A5.out).mono ?_
           (case side1 => repeat (first | exact (Kd.C_below HR122_4.out HB.out) | (with_reducible refine Kd.C_alloc ?_ _) | (with_reducible refine Kd.C_drewN ?_ _) | (with_reducible refine Kd.C_drew ?_)))
           (case side2 => exact HC122_4.out)
           rintro e w21 ⟨rfl, hb⟩
           refine ⟨_, rfl, ?_⟩
           have n0_ := zbb zafap hb
           have n1_ := zafan (below_step (zh1 HB zafar) hb)
           clear zafap
           clear HB
           have zafap := n0_
           have HB := n1_
           clear n0_ n1_
           (try clear hb)
           (try clear hb2)
           (try clear hk)
           (try clear hi)
           refine hK.out _ _ ⟨(zafal zafap.out 0).trans rfl, (zafal zafap.out 1).trans rfl, (zafal zafap.out 2).trans rfl, (zafal zafap.out 3).trans rfl, (zafal zafap.out 4).trans rfl, ((HB.out.cell (zafad w _ hw125_0)).trans hw125_0), ((HB.out.cell (zafad w _ hw125_1)).trans hw125_1), ((HB.out.cell (zafad w _ hw125_2)).trans hw125_2), ((HB.out.cell (zafad w _ hw125_3)).trans hw125_3), ((HB.out.cell (zafad w _ hw125_4)).trans hw125_4)⟩ (fun hHeld => ?_)
           clear hK K
           refine norm_ (a' := ?_) ?_ ?_
           rotate_left
           ·show Act.put _ (some 13) _ = _
            simp only [Act.put, zafaa, zafab, zafac, i64_w, i32_w]
            rfl
           refine pure_ (i := 2) (N := some 14) (v := ?_) (a' := ?_) zafsq3 rfl rfl (any_of HT_.out (by kernel_rfl)) (fun _ _ _ h => h) (Or.inl ⟨by rfl, ?_⟩) ?_ ?_
           rotate_left
           ·intro w'
            go_simp
            with_reducible rfl
           rotate_left
           ·simp only [Act.put, zafaa, zafab, zafac, i64_w, i32_w]
            rfl
           refine pure_ (i := 3) (N := some 15) (v := ?_) (a' := ?_) zafsq4 rfl rfl (any_of HT_.out (by kernel_rfl)) (fun _ _ _ h => h) (Or.inl ⟨by rfl, ?_⟩) ?_ ?_
           rotate_left
           ·intro w'
            go_simp
            with_reducible rfl
           rotate_left
           ·simp only [Act.put, zafaa, zafab, zafac, i64_w, i32_w]
            rfl
           refine pure_ (i := 4) (N := some 16) (v := ?_) (a' := ?_) zafsq5 rfl rfl (any_of HT_.out (by kernel_rfl)) (fun _ _ _ h => h) (Or.inl ⟨by rfl, ?_⟩) ?_ ?_
           rotate_left
           ·intro w'
            go_simp
            with_reducible rfl
           rotate_left
           ·simp only [Act.put, zafaa, zafab, zafac, i64_w, i32_w]
            rfl
           refine pure_ (i := 5) (N := some 17) (v := ?_) (a' := ?_) zafsq6 rfl rfl (any_of HT_.out (by kernel_rfl)) (fun _ _ _ h => h) (Or.inl ⟨by rfl, ?_⟩) ?_ ?_
           rotate_left
           ·intro w'
            go_simp
            with_reducible rfl
           rotate_left
           ·simp only [Act.put, zafaa, zafab, zafac, i64_w, i32_w]
            rfl
           refine pure_ (i := 6) (N := some 18) (v := ?_) (a' := ?_) zafsq7 rfl rfl (any_of HT_.out (by kernel_rfl)) (fun _ _ _ h => h) (Or.inl ⟨by rfl, ?_⟩) ?_ ?_
           rotate_left
           ·intro w'
            go_simp
            with_reducible rfl
           rotate_left
           ·simp only [Act.put, zafaa, zafab, zafac, i64_w, i32_w]
            rfl
           refine pure_ (i := 7) (N := some 19) (v := ?_) (a' := ?_) zafsq8 rfl rfl (any_of HT_.out (by kernel_rfl)) (fun _ _ _ h => h) (Or.inl ⟨by rfl, ?_⟩) ?_ ?_
           rotate_left
           ·intro w'
            go_simp
            with_reducible rfl
           rotate_left
           ·simp only [Act.put, zafaa, zafab, zafac, i64_w, i32_w]
            rfl
           refine pure_ (i := 9) (N := some 21) (v := ?_) (a' := ?_) zafsq9 rfl rfl (any_of HT_.out (by kernel_rfl)) (fun _ _ _ h => h) (Or.inl ⟨by rfl, ?_⟩) ?_ ?_
           rotate_left
           ·intro w'
            go_simp
            with_reducible rfl
           rotate_left
           ·simp only [Act.put, zafaa, zafab, zafac, i64_w, i32_w]
            rfl
           refine pure_ (i := 10) (N := some 22) (v := ?_) (a' := ?_) zafsq10 rfl rfl (any_of HT_.out (by kernel_rfl)) (fun _ _ _ h => h) (Or.inl ⟨by rfl, ?_⟩) ?_ ?_
           rotate_left
           ·intro w'
            go_simp
            with_reducible rfl
           rotate_left
           ·simp only [Act.put, zafaa, zafab, zafac, i64_w, i32_w]
            rfl
           refine pure_ (i := 11) (N := some 23) (v := ?_) (a' := ?_) zafsq11 rfl rfl (any_of HT_.out (by kernel_rfl)) (fun _ _ _ h => h) (Or.inl ⟨by rfl, ?_⟩) ?_ ?_
           rotate_left
           ·intro w'
            go_simp
            with_reducible rfl
           rotate_left
           ·simp only [Act.put, zafaa, zafab, zafac, i64_w, i32_w]
            rfl
           refine pure_ (i := 12) (N := some 24) (v := ?_) (a' := ?_) zafsq12 rfl rfl (any_of HT_.out (by kernel_rfl)) (fun _ _ _ h => h) (Or.inl ⟨by rfl, ?_⟩) ?_ ?_
           rotate_left
           ·intro w'
            go_simp
            with_reducible rfl
           rotate_left
           ·simp only [Act.put, zafaa, zafab, zafac, i64_w, i32_w]
            rfl
           refine pure_ (i := 13) (N := some 25) (v := ?_) (a' := ?_) zafsq13 rfl rfl (any_of HT_.out (by kernel_rfl)) (fun _ _ _ h => h) (Or.inl ⟨by rfl, ?_⟩) ?_ ?_
           rotate_left
           ·intro w'
            go_simp
            with_reducible rfl
           rotate_left
           ·simp only [Act.put, zafaa, zafab, zafac, i64_w, i32_w]
            rfl
           refine take_ (i := 8) (N := some 20) (v := ?_) (a' := ?_) zafsq14 rfl rfl (take_ofW HT_.out HW_.out (by kernel_rfl)) (fun _ _ _ h => h) (Or.inl ⟨by rfl, ?_⟩) hHeld ?_ ?_
           rotate_left
           ·rintro w' ⟨s0, s1, s2, s3, s4, s5, s6, s7, s8, s9⟩
            go_simp
            with_reducible rfl
           rotate_left
           ·simp only [Act.put, zafaa, zafab, zafac, i64_w, i32_w]
            rfl
           refine take_ (i := 14) (N := some 26) (v := ?_) (a' := ?_) zafsq15 rfl rfl (take_ofW HT_.out HW_.out (by kernel_rfl)) (fun _ _ _ h => h) (Or.inl ⟨by rfl, ?_⟩) hHeld ?_ ?_
           rotate_left
           ·rintro w' ⟨s0, s1, s2, s3, s4, s5, s6, s7, s8, s9⟩
            go_simp
            with_reducible rfl
           rotate_left
           ·simp only [Act.put, zafaa, zafab, zafac, i64_w, i32_w]
            rfl
           refine pure_ (i := 15) (N := some 27) (v := ?_) (a' := ?_) zafsq16 rfl rfl (any_of HT_.out (by kernel_rfl)) (fun _ _ _ h => h) (Or.inl ⟨by rfl, ?_⟩) ?_ ?_
           rotate_left
           ·intro w'
            go_simp
            with_reducible rfl
           rotate_left
           ·simp only [Act.put, zafaa, zafab, zafac, i64_w, i32_w]
            rfl
           refine pure_ (i := 16) (N := some 28) (v := ?_) (a' := ?_) zafsq17 rfl rfl (any_of HT_.out (by kernel_rfl)) (fun _ _ _ h => h) (Or.inl ⟨by rfl, ?_⟩) ?_ ?_
           rotate_left
           ·intro w'
            go_simp
            with_reducible rfl
           rotate_left
           ·simp only [Act.put, zafaa, zafab, zafac, i64_w, i32_w]
            rfl
           refine pure_ (i := 17) (N := some 29) (v := ?_) (a' := ?_) zafsq18 rfl rfl (any_of HT_.out (by kernel_rfl)) (fun _ _ _ h => h) (Or.inl ⟨by rfl, ?_⟩) ?_ ?_
           rotate_left
           ·intro w'
            go_simp
            with_reducible rfl
           rotate_left
           ·simp only [Act.put, zafaa, zafab, zafac, i64_w, i32_w]
            rfl
           refine done_ (done_of HT_.out (by kernel_rfl)) ?_
           try go_wp2
           go_roundg k1
           case measure => have := HK1.out; omega
           case rel => exact ⟨(wrap64 (zafao + 1)), (by first | rfl | (simp; done) | (simp [*]; done)), H', ⟨by have := HK1.out; omega⟩, ⟨zh1 HB zafar⟩⟩
         ·rw [if_neg c10] at H
          exact absurd H (by simp)
        ·rw [if_neg c9] at H
         exact absurd H (by simp)
       ·rw [if_neg c7] at H
        have c7b0 : decide (0 < zafao) = false := decide_eq_false c7
        clear c7
        have H' := zafan H
        clear H
        have p122 : 0 ≤ (zafao : Int) := of_decide_eq_true (by first | (with_reducible assumption) | assumption)
        have q122 : zafao < (l0.length : Int) := of_decide_eq_true (by first | (with_reducible assumption) | assumption)
        obtain ⟨ad122, A122_4, c122_4, e122, hx122_0, hx122_1, hx122_2, hx122_3, hx122_4, hl122_4, hi122_4⟩ := at_T24 HR0.out zafao p122 q122
        cases e122
        replace hx122_0 := (HB.out.cell (zafad w _ hx122_0)).trans hx122_0
        replace hx122_1 := (HB.out.cell (zafad w _ hx122_1)).trans hx122_1
        replace hx122_2 := (HB.out.cell (zafad w _ hx122_2)).trans hx122_2
        replace hx122_3 := (HB.out.cell (zafad w _ hx122_3)).trans hx122_3
        replace hx122_4 := (HB.out.cell (zafad w _ hx122_4)).trans hx122_4
        have HR122_4 := zafan hi122_4
        have HC122_4 := zafan hl122_4
        clear hi122_4 hl122_4
        replace p122 := eq_true p122
        replace q122 := eq_true q122
        try go_wp2_with (first | ((with_reducible refine gate_dst (N := 4) rfl ?_); refine box_event ?hg (N := 4) ?hd (cs := #[.int .i64 0, .bool false, .int .i64 0, .string (⟨#[]⟩ : ByteArray), .slice none 0 0]) (t := 24) ?hr ?_; (case hd => rfl); (case hg => rfl); (case hr => first | (go_simp; done) | (go_simp; rfl)); intro zafaq hg w22 hbox hb; have n0_ := zafan (below_step (zh0 HB) hb); have n1_ := zafan (hbox); have n2_ := zns hg (zh0 HB); have n3_ := zns hg (zh0 HB); clear HB; have HB := n0_; have zafap := n1_; have zafas := n2_; have zafar := n3_; clear n0_ n1_ n2_ n3_; clear hb hbox hg; have zafbn : w22.cell? ⟨zafaq, 0, none⟩ = some (.int .i64 0) := (zafal zafap.out 0).trans rfl; have zafbo : w22.cell? ⟨zafaq, 1, none⟩ = some (.bool false) := (zafal zafap.out 1).trans rfl; have zafbp : w22.cell? ⟨zafaq, 2, none⟩ = some (.int .i64 0) := (zafal zafap.out 2).trans rfl; have zafbq : w22.cell? ⟨zafaq, 3, none⟩ = some (.string (⟨#[]⟩ : ByteArray)) := (zafal zafap.out 3).trans rfl; have zafbr : w22.cell? ⟨zafaq, 4, none⟩ = some (.slice none 0 0) := (zafal zafap.out 4).trans rfl; have zafbs := zafam zafap.out 0; have zafbt := zafam zafap.out 1; have zafbu := zafam zafap.out 2; have zafbv := zafam zafap.out 3; have zafbw := zafam zafap.out 4))
        have n0_ : Aside0 ((((((w22.setCell ⟨zafaq, 0, none⟩ (.int .i64 ((rd_T24 l0 zafao).f0))).setCell ⟨zafaq, 1, none⟩ (.bool ((rd_T24 l0 zafao).f1))).setCell ⟨zafaq, 2, none⟩ (.int .i64 ((rd_T24 l0 zafao).f2))).setCell ⟨zafaq, 3, none⟩ (.string ((rd_T24 l0 zafao).f3))).setCell ⟨zafaq, 4, none⟩ (.slice A122_4 ((rd_T24 l0 zafao).f4).length c122_4)).heap[zafaq]? = some (.cells #[.int .i64 ((rd_T24 l0 zafao).f0), .bool ((rd_T24 l0 zafao).f1), .int .i64 ((rd_T24 l0 zafao).f2), .string ((rd_T24 l0 zafao).f3), .slice A122_4 ((rd_T24 l0 zafao).f4).length c122_4] 24 (0, 0))) := ⟨by (with_reducible repeat (first | refine zafae ?_ _ | refine zafag ?_ | refine zafaf ?_ _)); refine blk_put (cs := #[.int .i64 ((rd_T24 l0 zafao).f0), .bool ((rd_T24 l0 zafao).f1), .int .i64 ((rd_T24 l0 zafao).f2), .string ((rd_T24 l0 zafao).f3), .slice none 0 0]) ?_ 4 _ rfl; (with_reducible repeat (first | refine zafae ?_ _ | refine zafag ?_ | refine zafaf ?_ _)); refine blk_put (cs := #[.int .i64 ((rd_T24 l0 zafao).f0), .bool ((rd_T24 l0 zafao).f1), .int .i64 ((rd_T24 l0 zafao).f2), .string (⟨#[]⟩ : ByteArray), .slice none 0 0]) ?_ 3 _ rfl; (with_reducible repeat (first | refine zafae ?_ _ | refine zafag ?_ | refine zafaf ?_ _)); refine blk_put (cs := #[.int .i64 ((rd_T24 l0 zafao).f0), .bool ((rd_T24 l0 zafao).f1), .int .i64 0, .string (⟨#[]⟩ : ByteArray), .slice none 0 0]) ?_ 2 _ rfl; (with_reducible repeat (first | refine zafae ?_ _ | refine zafag ?_ | refine zafaf ?_ _)); refine blk_put (cs := #[.int .i64 ((rd_T24 l0 zafao).f0), .bool false, .int .i64 0, .string (⟨#[]⟩ : ByteArray), .slice none 0 0]) ?_ 1 _ rfl; (with_reducible repeat (first | refine zafae ?_ _ | refine zafag ?_ | refine zafaf ?_ _)); refine blk_put (cs := #[.int .i64 0, .bool false, .int .i64 0, .string (⟨#[]⟩ : ByteArray), .slice none 0 0]) ?_ 0 _ rfl; exact zbk zafap⟩
        have n1_ : Aside0 (Below w.heap.size w (((((w22.setCell ⟨zafaq, 0, none⟩ (.int .i64 ((rd_T24 l0 zafao).f0))).setCell ⟨zafaq, 1, none⟩ (.bool ((rd_T24 l0 zafao).f1))).setCell ⟨zafaq, 2, none⟩ (.int .i64 ((rd_T24 l0 zafao).f2))).setCell ⟨zafaq, 3, none⟩ (.string ((rd_T24 l0 zafao).f3))).setCell ⟨zafaq, 4, none⟩ (.slice A122_4 ((rd_T24 l0 zafao).f4).length c122_4))) := ⟨zh1 HB zafar⟩
        (try clear zafap)
        (try clear HB)
        generalize (((((w22.setCell ⟨zafaq, 0, none⟩ (.int .i64 ((rd_T24 l0 zafao).f0))).setCell ⟨zafaq, 1, none⟩ (.bool ((rd_T24 l0 zafao).f1))).setCell ⟨zafaq, 2, none⟩ (.int .i64 ((rd_T24 l0 zafao).f2))).setCell ⟨zafaq, 3, none⟩ (.string ((rd_T24 l0 zafao).f3))).setCell ⟨zafaq, 4, none⟩ (.slice A122_4 ((rd_T24 l0 zafao).f4).length c122_4)) = w24 at n0_ n1_ ⊢
        have zafap := n0_
        have HB := n1_
        clear n0_ n1_
        have n0_ := zafan (zafag zafap.out)
        have n1_ := zafan (zafaj HB.out)
        clear zafap
        clear HB
        have zafap := n0_
        have HB := n1_
        clear n0_ n1_
        refine start_ (n := 18) (S := fun w' => w'.cell? ⟨zafaq, 0, none⟩ = some (.int .i64 ((rd_T24 l0 zafao).f0)) ∧ w'.cell? ⟨zafaq, 1, none⟩ = some (.bool ((rd_T24 l0 zafao).f1)) ∧ w'.cell? ⟨zafaq, 2, none⟩ = some (.int .i64 ((rd_T24 l0 zafao).f2)) ∧ w'.cell? ⟨zafaq, 3, none⟩ = some (.string ((rd_T24 l0 zafao).f3)) ∧ w'.cell? ⟨zafaq, 4, none⟩ = some (.slice A122_4 ((rd_T24 l0 zafao).f4).length c122_4)) (ds := []) zafsq0 (by kernel_rfl) rfl rfl ⟨(zafal zafap.out 0).trans rfl, (zafal zafap.out 1).trans rfl, (zafal zafap.out 2).trans rfl, (zafal zafap.out 3).trans rfl, (zafal zafap.out 4).trans rfl⟩ (fun hHeld => ?_); refine with_tabW chain_right.tab4 chain_right.bits4 (fun HT_ HW_ => ?_)
        generalize w24.drew = w25 at zafap HB hHeld ⊢
        refine take_ (i := 0) (N := some 12) (v := ?_) (a' := ?_) zafsq1 rfl rfl (take_ofW HT_.out HW_.out (by kernel_rfl)) (fun _ _ _ h => h) (Or.inl ⟨by rfl, ?_⟩) hHeld ?_ ?_
        rotate_left
        ·rintro w' ⟨s0, s1, s2, s3, s4⟩
         go_simp
         with_reducible rfl
        rotate_left
        ·simp only [Act.put, zafaa, zafab, zafac, i64_w, i32_w]
         rfl
        refine one_ (i := 1) (N := some 13) zafsq2 rfl rfl (one_of HT_.out (by kernel_rfl)) (by decide) (fun K hK => ?_)
        refine goes_ Try.func13 (by kernel_rfl) rfl #[.agg #[.int .i64 ((rd_T24 l0 zafao).f0), .bool ((rd_T24 l0 zafao).f1), .int .i64 ((rd_T24 l0 zafao).f2), .string ((rd_T24 l0 zafao).f3), .slice A122_4 ((rd_T24 l0 zafao).f4).length c122_4]] (by rfl) rfl rfl (by (try simp only [List.map_toArray, List.map_cons, List.map_nil]); first | done | rfl) ?_
        with_reducible refine (chain_Check.calls k1 ((rd_T24 l0 zafao).f0) ((rd_T24 l0 zafao).f1) ((rd_T24 l0 zafao).f2) ((rd_T24 l0 zafao).f3) _ _ ((rd_T24 l0 zafao).f4) t124 _ ?side1 ?side2 A5.out).mono ?_
        (case side1 => repeat (first | exact (Kd.C_below HR122_4.out HB.out) | (with_reducible refine Kd.C_alloc ?_ _) | (with_reducible refine Kd.C_drewN ?_ _) | (with_reducible refine Kd.C_drew ?_)))
        (case side2 => exact HC122_4.out)
        rintro e w26 ⟨rfl, hb⟩
        refine ⟨_, rfl, ?_⟩
        have n0_ := zbb zafap hb
        have n1_ := zafan (below_step (zh1 HB zafar) hb)
        clear zafap
        clear HB
        have zafap := n0_
        have HB := n1_
        clear n0_ n1_
        (try clear hb)
        (try clear hb2)
        (try clear hk)
        (try clear hi)
        refine hK.out _ _ ⟨(zafal zafap.out 0).trans rfl, (zafal zafap.out 1).trans rfl, (zafal zafap.out 2).trans rfl, (zafal zafap.out 3).trans rfl, (zafal zafap.out 4).trans rfl⟩ (fun hHeld => ?_)
        clear hK K
        refine norm_ (a' := ?_) ?_ ?_
        rotate_left
        ·show Act.put _ (some 13) _ = _
         simp only [Act.put, zafaa, zafab, zafac, i64_w, i32_w]
         rfl
        refine pure_ (i := 2) (N := some 14) (v := ?_) (a' := ?_) zafsq3 rfl rfl (any_of HT_.out (by kernel_rfl)) (fun _ _ _ h => h) (Or.inl ⟨by rfl, ?_⟩) ?_ ?_
        rotate_left
        ·intro w'
         go_simp
         with_reducible rfl
        rotate_left
        ·simp only [Act.put, zafaa, zafab, zafac, i64_w, i32_w]
         rfl
        refine pure_ (i := 3) (N := some 15) (v := ?_) (a' := ?_) zafsq4 rfl rfl (any_of HT_.out (by kernel_rfl)) (fun _ _ _ h => h) (Or.inl ⟨by rfl, ?_⟩) ?_ ?_
        rotate_left
        ·intro w'
         go_simp
         with_reducible rfl
        rotate_left
        ·simp only [Act.put, zafaa, zafab, zafac, i64_w, i32_w]
         rfl
        refine pure_ (i := 4) (N := some 16) (v := ?_) (a' := ?_) zafsq5 rfl rfl (any_of HT_.out (by kernel_rfl)) (fun _ _ _ h => h) (Or.inl ⟨by rfl, ?_⟩) ?_ ?_
        rotate_left
        ·intro w'
         go_simp
         with_reducible rfl
        rotate_left
        ·simp only [Act.put, zafaa, zafab, zafac, i64_w, i32_w]
         rfl
        refine pure_ (i := 5) (N := some 17) (v := ?_) (a' := ?_) zafsq6 rfl rfl (any_of HT_.out (by kernel_rfl)) (fun _ _ _ h => h) (Or.inl ⟨by rfl, ?_⟩) ?_ ?_
        rotate_left
        ·intro w'
         go_simp
         with_reducible rfl
        rotate_left
        ·simp only [Act.put, zafaa, zafab, zafac, i64_w, i32_w]
         rfl
        refine pure_ (i := 6) (N := some 18) (v := ?_) (a' := ?_) zafsq7 rfl rfl (any_of HT_.out (by kernel_rfl)) (fun _ _ _ h => h) (Or.inl ⟨by rfl, ?_⟩) ?_ ?_
        rotate_left
        ·intro w'
         go_simp
         with_reducible rfl
        rotate_left
        ·simp only [Act.put, zafaa, zafab, zafac, i64_w, i32_w]
         rfl
        refine pure_ (i := 7) (N := some 19) (v := undef) (a' := ?_) zafsq8 rfl rfl (any_of HT_.out (by kernel_rfl)) (fun _ _ _ h => h) (Or.inr ⟨by rfl, rfl⟩) ?_ ?_
        rotate_left
        ·simp only [Act.put, zafaa, zafab, zafac, i64_w, i32_w]
         rfl
        refine pure_ (i := 8) (N := some 20) (v := undef) (a' := ?_) zafsq19 rfl rfl (any_of HT_.out (by kernel_rfl)) (fun _ _ _ h => h) (Or.inr ⟨by rfl, rfl⟩) ?_ ?_
        rotate_left
        ·simp only [Act.put, zafaa, zafab, zafac, i64_w, i32_w]
         rfl
        refine pure_ (i := 9) (N := some 21) (v := undef) (a' := ?_) zafsq20 rfl rfl (any_of HT_.out (by kernel_rfl)) (fun _ _ _ h => h) (Or.inr ⟨by rfl, rfl⟩) ?_ ?_
        rotate_left
        ·simp only [Act.put, zafaa, zafab, zafac, i64_w, i32_w]
         rfl
        refine pure_ (i := 10) (N := some 22) (v := undef) (a' := ?_) zafsq21 rfl rfl (any_of HT_.out (by kernel_rfl)) (fun _ _ _ h => h) (Or.inr ⟨by rfl, rfl⟩) ?_ ?_
        rotate_left
        ·simp only [Act.put, zafaa, zafab, zafac, i64_w, i32_w]
         rfl
        refine pure_ (i := 11) (N := some 23) (v := undef) (a' := ?_) zafsq22 rfl rfl (any_of HT_.out (by kernel_rfl)) (fun _ _ _ h => h) (Or.inr ⟨by rfl, rfl⟩) ?_ ?_
        rotate_left
        ·simp only [Act.put, zafaa, zafab, zafac, i64_w, i32_w]
         rfl
        refine pure_ (i := 12) (N := some 24) (v := undef) (a' := ?_) zafsq23 rfl rfl (any_of HT_.out (by kernel_rfl)) (fun _ _ _ h => h) (Or.inr ⟨by rfl, rfl⟩) ?_ ?_
        rotate_left
        ·simp only [Act.put, zafaa, zafab, zafac, i64_w, i32_w]
         rfl
        refine pure_ (i := 13) (N := some 25) (v := undef) (a' := ?_) zafsq14 rfl rfl (any_of HT_.out (by kernel_rfl)) (fun _ _ _ h => h) (Or.inr ⟨by rfl, rfl⟩) ?_ ?_
        rotate_left
        ·simp only [Act.put, zafaa, zafab, zafac, i64_w, i32_w]
         rfl
        refine pure_ (i := 14) (N := some 26) (v := undef) (a' := ?_) zafsq15 rfl rfl (any_of HT_.out (by kernel_rfl)) (fun _ _ _ h => h) (Or.inr ⟨by rfl, rfl⟩) ?_ ?_
        rotate_left
        ·simp only [Act.put, zafaa, zafab, zafac, i64_w, i32_w]
         rfl
        refine pure_ (i := 15) (N := some 27) (v := undef) (a' := ?_) zafsq16 rfl rfl (any_of HT_.out (by kernel_rfl)) (fun _ _ _ h => h) (Or.inr ⟨by rfl, rfl⟩) ?_ ?_
        rotate_left
        ·simp only [Act.put, zafaa, zafab, zafac, i64_w, i32_w]
         rfl
        refine pure_ (i := 16) (N := some 28) (v := ?_) (a' := ?_) zafsq17 rfl rfl (any_of HT_.out (by kernel_rfl)) (fun _ _ _ h => h) (Or.inl ⟨by rfl, ?_⟩) ?_ ?_
        rotate_left
        ·intro w'
         go_simp
         with_reducible rfl
        rotate_left
        ·simp only [Act.put, zafaa, zafab, zafac, i64_w, i32_w]
         rfl
        refine pure_ (i := 17) (N := some 29) (v := ?_) (a' := ?_) zafsq18 rfl rfl (any_of HT_.out (by kernel_rfl)) (fun _ _ _ h => h) (Or.inl ⟨by rfl, ?_⟩) ?_ ?_
        rotate_left
        ·intro w'
         go_simp
         with_reducible rfl
        rotate_left
        ·simp only [Act.put, zafaa, zafab, zafac, i64_w, i32_w]
         rfl
        refine done_ (done_of HT_.out (by kernel_rfl)) ?_
        try go_wp2
        go_roundg k1
        case measure => have := HK1.out; omega
        case rel => exact ⟨(wrap64 (zafao + 1)), (by first | rfl | (simp; done) | (simp [*]; done)), H', ⟨by have := HK1.out; omega⟩, ⟨zh1 HB zafar⟩⟩
      ·rw [if_neg c6] at H
       have c6b0 : (t124 == 0) = false := beq_eq_false_iff_ne.mpr c6
       have c6b1 : (t124 != 0) = true := bne_iff_ne.mpr c6
       obtain rfl := Option.some.inj H
       have p122 : 0 ≤ (zafao : Int) := of_decide_eq_true (by first | (with_reducible assumption) | assumption)
       have q122 : zafao < (l0.length : Int) := of_decide_eq_true (by first | (with_reducible assumption) | assumption)
       obtain ⟨ad122, A122_4, c122_4, e122, hx122_0, hx122_1, hx122_2, hx122_3, hx122_4, hl122_4, hi122_4⟩ := at_T24 HR0.out zafao p122 q122
       cases e122
       replace hx122_0 := (HB.out.cell (zafad w _ hx122_0)).trans hx122_0
       replace hx122_1 := (HB.out.cell (zafad w _ hx122_1)).trans hx122_1
       replace hx122_2 := (HB.out.cell (zafad w _ hx122_2)).trans hx122_2
       replace hx122_3 := (HB.out.cell (zafad w _ hx122_3)).trans hx122_3
       replace hx122_4 := (HB.out.cell (zafad w _ hx122_4)).trans hx122_4
       have HR122_4 := zafan hi122_4
       have HC122_4 := zafan hl122_4
       clear hi122_4 hl122_4
       replace p122 := eq_true p122
       replace q122 := eq_true q122
       try go_wp2_with (first | ((with_reducible refine gate_dst (N := 4) rfl ?_); refine box_event ?hg (N := 4) ?hd (cs := #[.int .i64 0, .bool false, .int .i64 0, .string (⟨#[]⟩ : ByteArray), .slice none 0 0]) (t := 24) ?hr ?_; (case hd => rfl); (case hg => rfl); (case hr => first | (go_simp; done) | (go_simp; rfl)); intro zafaq hg w27 hbox hb; have n0_ := zafan (below_step (zh0 HB) hb); have n1_ := zafan (hbox); have n2_ := zns hg (zh0 HB); have n3_ := zns hg (zh0 HB); clear HB; have HB := n0_; have zafap := n1_; have zafas := n2_; have zafar := n3_; clear n0_ n1_ n2_ n3_; clear hb hbox hg; have zafbx : w27.cell? ⟨zafaq, 0, none⟩ = some (.int .i64 0) := (zafal zafap.out 0).trans rfl; have zafby : w27.cell? ⟨zafaq, 1, none⟩ = some (.bool false) := (zafal zafap.out 1).trans rfl; have zafbz : w27.cell? ⟨zafaq, 2, none⟩ = some (.int .i64 0) := (zafal zafap.out 2).trans rfl; have zafca : w27.cell? ⟨zafaq, 3, none⟩ = some (.string (⟨#[]⟩ : ByteArray)) := (zafal zafap.out 3).trans rfl; have zafcb : w27.cell? ⟨zafaq, 4, none⟩ = some (.slice none 0 0) := (zafal zafap.out 4).trans rfl; have zafcc := zafam zafap.out 0; have zafcd := zafam zafap.out 1; have zafce := zafam zafap.out 2; have zafcf := zafam zafap.out 3; have zafcg := zafam zafap.out 4))
       have n0_ : Aside0 ((((((w27.setCell ⟨zafaq, 0, none⟩ (.int .i64 ((rd_T24 l0 zafao).f0))).setCell ⟨zafaq, 1, none⟩ (.bool ((rd_T24 l0 zafao).f1))).setCell ⟨zafaq, 2, none⟩ (.int .i64 ((rd_T24 l0 zafao).f2))).setCell ⟨zafaq, 3, none⟩ (.string ((rd_T24 l0 zafao).f3))).setCell ⟨zafaq, 4, none⟩ (.slice A122_4 ((rd_T24 l0 zafao).f4).length c122_4)).heap[zafaq]? = some (.cells #[.int .i64 ((rd_T24 l0 zafao).f0), .bool ((rd_T24 l0 zafao).f1), .int .i64 ((rd_T24 l0 zafao).f2), .string ((rd_T24 l0 zafao).f3), .slice A122_4 ((rd_T24 l0 zafao).f4).length c122_4] 24 (0, 0))) := ⟨by (with_reducible repeat (first | refine zafae ?_ _ | refine zafag ?_ | refine zafaf ?_ _)); refine blk_put (cs := #[.int .i64 ((rd_T24 l0 zafao).f0), .bool ((rd_T24 l0 zafao).f1), .int .i64 ((rd_T24 l0 zafao).f2), .string ((rd_T24 l0 zafao).f3), .slice none 0 0]) ?_ 4 _ rfl; (with_reducible repeat (first | refine zafae ?_ _ | refine zafag ?_ | refine zafaf ?_ _)); refine blk_put (cs := #[.int .i64 ((rd_T24 l0 zafao).f0), .bool ((rd_T24 l0 zafao).f1), .int .i64 ((rd_T24 l0 zafao).f2), .string (⟨#[]⟩ : ByteArray), .slice none 0 0]) ?_ 3 _ rfl; (with_reducible repeat (first | refine zafae ?_ _ | refine zafag ?_ | refine zafaf ?_ _)); refine blk_put (cs := #[.int .i64 ((rd_T24 l0 zafao).f0), .bool ((rd_T24 l0 zafao).f1), .int .i64 0, .string (⟨#[]⟩ : ByteArray), .slice none 0 0]) ?_ 2 _ rfl; (with_reducible repeat (first | refine zafae ?_ _ | refine zafag ?_ | refine zafaf ?_ _)); refine blk_put (cs := #[.int .i64 ((rd_T24 l0 zafao).f0), .bool false, .int .i64 0, .string (⟨#[]⟩ : ByteArray), .slice none 0 0]) ?_ 1 _ rfl; (with_reducible repeat (first | refine zafae ?_ _ | refine zafag ?_ | refine zafaf ?_ _)); refine blk_put (cs := #[.int .i64 0, .bool false, .int .i64 0, .string (⟨#[]⟩ : ByteArray), .slice none 0 0]) ?_ 0 _ rfl; exact zbk zafap⟩
       have n1_ : Aside0 (Below w.heap.size w (((((w27.setCell ⟨zafaq, 0, none⟩ (.int .i64 ((rd_T24 l0 zafao).f0))).setCell ⟨zafaq, 1, none⟩ (.bool ((rd_T24 l0 zafao).f1))).setCell ⟨zafaq, 2, none⟩ (.int .i64 ((rd_T24 l0 zafao).f2))).setCell ⟨zafaq, 3, none⟩ (.string ((rd_T24 l0 zafao).f3))).setCell ⟨zafaq, 4, none⟩ (.slice A122_4 ((rd_T24 l0 zafao).f4).length c122_4))) := ⟨zh1 HB zafar⟩
       (try clear zafap)
       (try clear HB)
       generalize (((((w27.setCell ⟨zafaq, 0, none⟩ (.int .i64 ((rd_T24 l0 zafao).f0))).setCell ⟨zafaq, 1, none⟩ (.bool ((rd_T24 l0 zafao).f1))).setCell ⟨zafaq, 2, none⟩ (.int .i64 ((rd_T24 l0 zafao).f2))).setCell ⟨zafaq, 3, none⟩ (.string ((rd_T24 l0 zafao).f3))).setCell ⟨zafaq, 4, none⟩ (.slice A122_4 ((rd_T24 l0 zafao).f4).length c122_4)) = w29 at n0_ n1_ ⊢
       have zafap := n0_
       have HB := n1_
       clear n0_ n1_
       have n0_ := zafan (zafag zafap.out)
       have n1_ := zafan (zafaj HB.out)
       clear zafap
       clear HB
       have zafap := n0_
       have HB := n1_
       clear n0_ n1_
       refine start_ (n := 18) (S := fun w' => w'.cell? ⟨zafaq, 0, none⟩ = some (.int .i64 ((rd_T24 l0 zafao).f0)) ∧ w'.cell? ⟨zafaq, 1, none⟩ = some (.bool ((rd_T24 l0 zafao).f1)) ∧ w'.cell? ⟨zafaq, 2, none⟩ = some (.int .i64 ((rd_T24 l0 zafao).f2)) ∧ w'.cell? ⟨zafaq, 3, none⟩ = some (.string ((rd_T24 l0 zafao).f3)) ∧ w'.cell? ⟨zafaq, 4, none⟩ = some (.slice A122_4 ((rd_T24 l0 zafao).f4).length c122_4)) (ds := []) zafsq0 (by kernel_rfl) rfl rfl ⟨(zafal zafap.out 0).trans rfl, (zafal zafap.out 1).trans rfl, (zafal zafap.out 2).trans rfl, (zafal zafap.out 3).trans rfl, (zafal zafap.out 4).trans rfl⟩ (fun hHeld => ?_); refine with_tabW chain_right.tab4 chain_right.bits4 (fun HT_ HW_ => ?_)
       generalize w29.drew = w30 at zafap HB hHeld ⊢
       refine take_ (i := 0) (N := some 12) (v := ?_) (a' := ?_) zafsq1 rfl rfl (take_ofW HT_.out HW_.out (by kernel_rfl)) (fun _ _ _ h => h) (Or.inl ⟨by rfl, ?_⟩) hHeld ?_ ?_
       rotate_left
       ·rintro w' ⟨s0, s1, s2, s3, s4⟩
        go_simp
        with_reducible rfl
       rotate_left
       ·simp only [Act.put, zafaa, zafab, zafac, i64_w, i32_w]
        rfl
       refine one_ (i := 1) (N := some 13) zafsq2 rfl rfl (one_of HT_.out (by kernel_rfl)) (by decide) (fun K hK => ?_)
       refine goes_ Try.func13 (by kernel_rfl) rfl #[.agg #[.int .i64 ((rd_T24 l0 zafao).f0), .bool ((rd_T24 l0 zafao).f1), .int .i64 ((rd_T24 l0 zafao).f2), .string ((rd_T24 l0 zafao).f3), .slice A122_4 ((rd_T24 l0 zafao).f4).length c122_4]] (by rfl) rfl rfl (by (try simp only [List.map_toArray, List.map_cons, List.map_nil]); first | done | rfl) ?_
       with_reducible refine (chain_Check.calls k1 ((rd_T24 l0 zafao).f0) ((rd_T24 l0 zafao).f1) ((rd_T24 l0 zafao).f2) ((rd_T24 l0 zafao).f3) _ _ ((rd_T24 l0 zafao).f4) t124 _ ?side1 ?side2 A5.out).mono ?_
       (case side1 => repeat (first | exact (Kd.C_below HR122_4.out HB.out) | (with_reducible refine Kd.C_alloc ?_ _) | (with_reducible refine Kd.C_drewN ?_ _) | (with_reducible refine Kd.C_drew ?_)))
       (case side2 => exact HC122_4.out)
       rintro e w31 ⟨rfl, hb⟩
       refine ⟨_, rfl, ?_⟩
       have n0_ := zbb zafap hb
       have n1_ := zafan (below_step (zh1 HB zafar) hb)
       clear zafap
       clear HB
       have zafap := n0_
       have HB := n1_
       clear n0_ n1_
       (try clear hb)
       (try clear hb2)
       (try clear hk)
       (try clear hi)
       refine hK.out _ _ ⟨(zafal zafap.out 0).trans rfl, (zafal zafap.out 1).trans rfl, (zafal zafap.out 2).trans rfl, (zafal zafap.out 3).trans rfl, (zafal zafap.out 4).trans rfl⟩ (fun hHeld => ?_)
       clear hK K
       refine norm_ (a' := ?_) ?_ ?_
       rotate_left
       ·show Act.put _ (some 13) _ = _
        simp only [Act.put, zafaa, zafab, zafac, i64_w, i32_w]
        rfl
       refine pure_ (i := 2) (N := some 14) (v := ?_) (a' := ?_) zafsq3 rfl rfl (any_of HT_.out (by kernel_rfl)) (fun _ _ _ h => h) (Or.inl ⟨by rfl, ?_⟩) ?_ ?_
       rotate_left
       ·intro w'
        go_simp
        with_reducible rfl
       rotate_left
       ·simp only [Act.put, zafaa, zafab, zafac, i64_w, i32_w]
        rfl
       refine pure_ (i := 3) (N := some 15) (v := ?_) (a' := ?_) zafsq4 rfl rfl (any_of HT_.out (by kernel_rfl)) (fun _ _ _ h => h) (Or.inl ⟨by rfl, ?_⟩) ?_ ?_
       rotate_left
       ·intro w'
        go_simp
        with_reducible rfl
       rotate_left
       ·simp only [Act.put, zafaa, zafab, zafac, i64_w, i32_w]
        rfl
       refine pure_ (i := 4) (N := some 16) (v := undef) (a' := ?_) zafsq5 rfl rfl (any_of HT_.out (by kernel_rfl)) (fun _ _ _ h => h) (Or.inr ⟨by rfl, rfl⟩) ?_ ?_
       rotate_left
       ·simp only [Act.put, zafaa, zafab, zafac, i64_w, i32_w]
        rfl
       refine pure_ (i := 5) (N := some 17) (v := undef) (a' := ?_) zafsq6 rfl rfl (any_of HT_.out (by kernel_rfl)) (fun _ _ _ h => h) (Or.inr ⟨by rfl, rfl⟩) ?_ ?_
       rotate_left
       ·simp only [Act.put, zafaa, zafab, zafac, i64_w, i32_w]
        rfl
       refine pure_ (i := 6) (N := some 18) (v := undef) (a' := ?_) zafsq7 rfl rfl (any_of HT_.out (by kernel_rfl)) (fun _ _ _ h => h) (Or.inr ⟨by rfl, rfl⟩) ?_ ?_
       rotate_left
       ·simp only [Act.put, zafaa, zafab, zafac, i64_w, i32_w]
        rfl
       refine pure_ (i := 7) (N := some 19) (v := undef) (a' := ?_) zafsq8 rfl rfl (any_of HT_.out (by kernel_rfl)) (fun _ _ _ h => h) (Or.inr ⟨by rfl, rfl⟩) ?_ ?_
       rotate_left
       ·simp only [Act.put, zafaa, zafab, zafac, i64_w, i32_w]
        rfl
       refine pure_ (i := 8) (N := some 20) (v := undef) (a' := ?_) zafsq19 rfl rfl (any_of HT_.out (by kernel_rfl)) (fun _ _ _ h => h) (Or.inr ⟨by rfl, rfl⟩) ?_ ?_
       rotate_left
       ·simp only [Act.put, zafaa, zafab, zafac, i64_w, i32_w]
        rfl
       refine pure_ (i := 9) (N := some 21) (v := undef) (a' := ?_) zafsq20 rfl rfl (any_of HT_.out (by kernel_rfl)) (fun _ _ _ h => h) (Or.inr ⟨by rfl, rfl⟩) ?_ ?_
       rotate_left
       ·simp only [Act.put, zafaa, zafab, zafac, i64_w, i32_w]
        rfl
       refine pure_ (i := 10) (N := some 22) (v := undef) (a' := ?_) zafsq21 rfl rfl (any_of HT_.out (by kernel_rfl)) (fun _ _ _ h => h) (Or.inr ⟨by rfl, rfl⟩) ?_ ?_
       rotate_left
       ·simp only [Act.put, zafaa, zafab, zafac, i64_w, i32_w]
        rfl
       refine pure_ (i := 11) (N := some 23) (v := undef) (a' := ?_) zafsq22 rfl rfl (any_of HT_.out (by kernel_rfl)) (fun _ _ _ h => h) (Or.inr ⟨by rfl, rfl⟩) ?_ ?_
       rotate_left
       ·simp only [Act.put, zafaa, zafab, zafac, i64_w, i32_w]
        rfl
       refine pure_ (i := 12) (N := some 24) (v := undef) (a' := ?_) zafsq23 rfl rfl (any_of HT_.out (by kernel_rfl)) (fun _ _ _ h => h) (Or.inr ⟨by rfl, rfl⟩) ?_ ?_
       rotate_left
       ·simp only [Act.put, zafaa, zafab, zafac, i64_w, i32_w]
        rfl
       refine pure_ (i := 13) (N := some 25) (v := undef) (a' := ?_) zafsq14 rfl rfl (any_of HT_.out (by kernel_rfl)) (fun _ _ _ h => h) (Or.inr ⟨by rfl, rfl⟩) ?_ ?_
       rotate_left
       ·simp only [Act.put, zafaa, zafab, zafac, i64_w, i32_w]
        rfl
       refine pure_ (i := 14) (N := some 26) (v := undef) (a' := ?_) zafsq15 rfl rfl (any_of HT_.out (by kernel_rfl)) (fun _ _ _ h => h) (Or.inr ⟨by rfl, rfl⟩) ?_ ?_
       rotate_left
       ·simp only [Act.put, zafaa, zafab, zafac, i64_w, i32_w]
        rfl
       refine pure_ (i := 15) (N := some 27) (v := undef) (a' := ?_) zafsq16 rfl rfl (any_of HT_.out (by kernel_rfl)) (fun _ _ _ h => h) (Or.inr ⟨by rfl, rfl⟩) ?_ ?_
       rotate_left
       ·simp only [Act.put, zafaa, zafab, zafac, i64_w, i32_w]
        rfl
       refine pure_ (i := 16) (N := some 28) (v := undef) (a' := ?_) zafsq17 rfl rfl (any_of HT_.out (by kernel_rfl)) (fun _ _ _ h => h) (Or.inr ⟨by rfl, rfl⟩) ?_ ?_
       rotate_left
       ·simp only [Act.put, zafaa, zafab, zafac, i64_w, i32_w]
        rfl
       refine pure_ (i := 17) (N := some 29) (v := ?_) (a' := ?_) zafsq18 rfl rfl (any_of HT_.out (by kernel_rfl)) (fun _ _ _ h => h) (Or.inl ⟨by rfl, ?_⟩) ?_ ?_
       rotate_left
       ·intro w'
        go_simp
        with_reducible rfl
       rotate_left
       ·simp only [Act.put, zafaa, zafab, zafac, i64_w, i32_w]
        rfl
       refine done_ (done_of HT_.out (by kernel_rfl)) ?_
       try go_wp2
       go_ret
       exact ⟨by first | rfl | (simp [errW_none, errW_some] <;> rfl) | (simp [*, errW_none, errW_some] <;> rfl), zh1 HB zafar⟩
     ·rw [if_neg c4] at H
      exact absurd H (by simp)
    ·rw [if_neg c3] at H
     exact absurd H (by simp)
   ·rw [if_neg c2] at H
    have c2b0 : decide (zafao < (l0.length : Int)) = false := decide_eq_false c2
    clear c2
    obtain rfl := Option.some.inj H
    go_wp2
    go_ret
    exact ⟨by first | rfl | (simp [errW_none, errW_some] <;> rfl) | (simp [*, errW_none, errW_some] <;> rfl), zh0 HB⟩

end Go.Proofs.Ytmpnaaegahjfkaa.Q