

/- Written by a program of this session (wip/patch_print.py over the kit's print): functions of the given program as plain Lean functions, and that each call does what its function says, under no further conditions. -/
import Derived.Test.YtmpnaaegahjfkaaQx0
import Derived.Test.YtmpnaaegahjfkaaQx4
import Derived.Test.YtmpnaaegahjfkaaQx5
import Derived.Test.YtmpnaaegahjfkaaQx6
namespace Go.Proofs.Ytmpnaaegahjfkaa.Q
open Go.RowKit Go.Proofs.YtmpnaaegahjfkaaW.PrintWords Go.Proofs.YtmpnaaegahjfkaaW.PrintLast Go.Proofs.YtmpnaaegahjfkaaW.PrintMore
attribute [local go_sem] max2_int min2_int max_two min_two max_three min_three max_four min_four   -- for this text's walks alone
set_option linter.unusedVariables false
set_option linter.unusedSimpArgs false
attribute [local go_sem] xor_ones_u8 xor_ones_u16 xor_ones_u32 xor_ones_u64 cell_twice frozen_twice
abbrev zahaa := @List.setIfInBounds_toArray
abbrev zahab := @List.set_cons_zero
abbrev zahac := @List.set_cons_succ
abbrev zahad := @World.block_lt_of_cell?
abbrev zahae := @blk_drewN
abbrev zahaf := @blk_alloc
abbrev zahag := @blk_drew
abbrev zahah := @below_set
abbrev zahai := @pw_below_drewN
abbrev zahaj := @below_drew1
abbrev zahak := @below_alloc
abbrev zahal := @blk_cell
abbrev zaham := @List.map_toArray
abbrev zahan := @List.map_cons
abbrev zahao := @List.map_nil
abbrev zahap := @Aside0.mk
abbrev zahsq0 : Array Bool := #[false, false, false, false, false, false, false, false, false, false, false, false, false, false, false, false, false, false, false, false, false, false, false]
abbrev zahsq1 : Array Bool := #[true, false, false, false, false, false, false, false, false, false, false, false, false, false, false, false, false, false, false, false, false, false, false]
abbrev zahsq2 : Array Bool := #[true, true, false, false, false, false, false, false, false, false, false, false, false, false, false, false, false, false, false, false, false, false, false]
abbrev zahsq3 : Array Bool := #[true, true, true, false, false, false, false, false, false, false, false, false, false, false, false, false, false, false, false, false, false, false, false]
abbrev zahsq4 : Array Bool := #[true, true, true, true, false, false, false, false, false, false, false, false, false, false, false, false, false, false, false, false, false, false, false]
abbrev zahsq5 : Array Bool := #[true, true, true, true, true, false, false, false, false, false, false, false, false, false, false, false, false, false, false, false, false, false, false]
abbrev zahsq6 : Array Bool := #[true, true, true, true, true, true, false, false, false, false, false, false, false, false, false, false, false, false, false, false, false, false, false]
abbrev zahsq7 : Array Bool := #[true, true, true, true, true, true, true, false, false, false, false, false, false, false, false, false, false, false, false, false, false, false, false]
abbrev zahsq8 : Array Bool := #[true, true, true, true, true, true, true, true, false, false, false, false, false, false, false, false, false, false, false, false, false, false, false]
abbrev zahsq9 : Array Bool := #[true, true, true, true, true, true, true, true, true, false, false, false, false, false, false, false, false, false, false, false, false, false, false]
abbrev zahsq10 : Array Bool := #[true, true, true, true, true, true, true, true, true, true, false, false, false, false, false, false, false, false, false, false, false, false, false]
abbrev zahsq11 : Array Bool := #[true, true, true, true, true, true, true, true, true, true, true, false, false, false, false, false, false, false, false, false, false, false, false]
abbrev zahsq12 : Array Bool := #[true, true, true, true, true, true, true, true, true, true, true, true, false, false, false, false, false, false, false, false, false, false, false]
abbrev zahsq13 : Array Bool := #[true, true, true, true, true, true, true, true, true, true, true, true, true, false, false, false, false, false, false, false, false, false, false]
abbrev zahsq14 : Array Bool := #[true, true, true, true, true, true, true, true, true, true, true, true, true, true, false, false, false, false, false, false, false, false, false]
abbrev zahsq15 : Array Bool := #[true, true, true, true, true, true, true, true, true, true, true, true, true, true, false, true, false, false, false, false, false, false, false]
abbrev zahsq16 : Array Bool := #[true, true, true, true, true, true, true, true, true, true, true, true, true, true, false, true, true, false, false, false, false, false, false]
abbrev zahsq17 : Array Bool := #[true, true, true, true, true, true, true, true, true, true, true, true, true, true, false, true, true, true, false, false, false, false, false]
abbrev zahsq18 : Array Bool := #[true, true, true, true, true, true, true, true, true, true, true, true, true, true, true, true, true, true, false, false, false, false, false]
abbrev zahsq19 : Array Bool := #[true, true, true, true, true, true, true, true, true, true, true, true, true, true, true, true, true, true, true, false, false, false, false]
abbrev zahsq20 : Array Bool := #[true, true, true, true, true, true, true, true, true, true, true, true, true, true, true, true, true, true, true, true, false, false, false]
abbrev zahsq21 : Array Bool := #[true, true, true, true, true, true, true, true, true, true, true, true, true, true, true, true, true, true, true, true, true, false, false]
abbrev zahsq22 : Array Bool := #[true, true, true, true, true, true, true, true, true, true, true, true, true, true, true, true, true, true, true, true, true, true, false]
abbrev zahsq23 : Array Bool := #[true, true, true, true, true, true, true, true, true, true, true, true, true, true, true, true, true, true, true, true, true, true, true]
abbrev zahsq24 : Array Bool := #[true, true, true, true, true, true, true, true, true, true, true, true, true, true, true, false, false, false, false, false, false, false, false]
abbrev zahsq25 : Array Bool := #[true, true, true, true, true, true, true, true, true, true, true, true, true, true, true, true, false, false, false, false, false, false, false]
abbrev zahsq26 : Array Bool := #[true, true, true, true, true, true, true, true, true, true, true, true, true, true, true, true, true, false, false, false, false, false, false]
/-! ### chain_Put: function 16 -/
def chain_Put.j0 : Nat → List (S24) → Bool → Int → Bool → Int → ByteArray → List (S72) → Option ((List (S24)) × Int)
 | 0, _, _, _, _, _, _, _ => none
 | k + 1, x0, x6, zahau, zahav, zahaw, zahax, zahay => if x6 = true then (some (([] : List (S24)), 1)) else (if (x0.length : Int) = 32 then (some (([] : List (S24)), 131)) else ((chain_own.f zahau zahav zahaw zahax zahay).bind fun bt147 => ((some (([(⟨bt147.1, bt147.2.1, bt147.2.2.1, bt147.2.2.2.1, bt147.2.2.2.2⟩ : S24)] : List (S24)) : List (S24))).bind fun y154 => ((chain_copied.f k x0).bind fun t157 => (if y154.length + t157.length < 2199023255552 then (some ((y154 ++ t157), 0)) else (none))))))
def chain_Put.f (k : Nat) (l0 : List (S24)) (a1_0 : Int) (a1_1 : Bool) (a1_2 : Int) (a1_3 : ByteArray) (l1_4 : List (S72)) : Option ((List (S24)) × Int) := (chain_right.f k l0).bind fun t144 => (if t144 = true then ((chain_Check.f k a1_0 a1_1 a1_2 a1_3 l1_4).bind fun t145 => (if t145 = 0 then (if (l0.length : Int) > 0 then (if 0 < (l0.length : Int) then (chain_Put.j0 k l0 (decide (a1_0 ≤ ((rd_T24 l0 0).f0))) a1_0 a1_1 a1_2 a1_3 l1_4) else (none)) else (chain_Put.j0 k l0 false a1_0 a1_1 a1_2 a1_3 l1_4)) else (chain_Put.j0 k l0 true a1_0 a1_1 a1_2 a1_3 l1_4))) else (chain_Put.j0 k l0 true a1_0 a1_1 a1_2 a1_3 l1_4))
theorem chain_Put.mono_l : ∀ k, (∀ y0 y1 y2 y3 y4 y5 y6, LeO (chain_Put.j0 k y0 y1 y2 y3 y4 y5 y6) (chain_Put.j0 (k + 1) y0 y1 y2 y3 y4 y5 y6))
 | 0 => fun _ _ _ _ _ _ _ r h => by simp [chain_Put.j0] at h
 | k + 1 => by
  have ih0 := chain_Put.mono_l k
  ·intro y0 y1 y2 y3 y4 y5 y6
   unfold chain_Put.j0
   repeat' first
   | (with_reducible exact ih0 _ _ _ _ _ _ _)
   | (with_reducible exact chain_Check.mono _ _ _ _ _ _)
   | (with_reducible exact chain_copied.mono _ _)
   | (with_reducible exact chain_right.mono _ _)
   | (with_reducible exact LeO.refl _)
   | (with_reducible exact LeO.none _)
   | (with_reducible refine LeO.ite ?_ ?_)
   | (with_reducible refine LeO.bind ?_ (fun _ => ?_))
   | exact ih0 _ _ _ _ _ _ _
   | exact chain_Check.mono _ _ _ _ _ _
   | exact chain_copied.mono _ _
   | exact chain_right.mono _ _
   | exact LeO.none _
   | refine LeO.ite ?_ ?_
   | refine LeO.bind ?_ (fun _ => ?_)
theorem chain_Put.mono : ∀ a0 a1 a2 a3 a4 a5 k, LeO (chain_Put.f k a0 a1 a2 a3 a4 a5) (chain_Put.f (k + 1) a0 a1 a2 a3 a4 a5) := by
 intro a0 a1 a2 a3 a4 a5 k
 have ih0 := chain_Put.mono_l k
 unfold chain_Put.f
 repeat' first
   | (with_reducible exact ih0 _ _ _ _ _ _ _)
   | (with_reducible exact chain_Check.mono _ _ _ _ _ _)
   | (with_reducible exact chain_copied.mono _ _)
   | (with_reducible exact chain_right.mono _ _)
   | (with_reducible exact LeO.refl _)
   | (with_reducible exact LeO.none _)
   | (with_reducible refine LeO.ite ?_ ?_)
   | (with_reducible refine LeO.bind ?_ (fun _ => ?_))
   | exact ih0 _ _ _ _ _ _ _
   | exact chain_Check.mono _ _ _ _ _ _
   | exact chain_copied.mono _ _
   | exact chain_right.mono _ _
   | exact LeO.none _
   | refine LeO.ite ?_ ?_
   | refine LeO.bind ?_ (fun _ => ?_)
def chain_Put.T1 : Bool × List (List Nat × List Nat) := (true, [([], []), ([0], [0]), ([1], [1]), ([2, 1], [2]), ([3], [3]), ([4, 3, 3], [3, 4]), ([5, 3], [3, 5]), ([3, 6], [3, 6]), ([7, 5], [7]), ([8], [8]), ([9, 8], [8, 9]), ([10, 8], [8, 10]), ([11, 8, 8], [8, 11]), ([12], [12]), ([13, 12], [12, 13]), ([12], [12]), ([15, 12], [12, 15]), ([16, 12], [12, 16]), ([17, 12], [12, 17]), ([14, 18, 12], [12, 14, 18]), ([12, 19, 8], [8, 12, 19]), ([8, 20], [8, 20]), ([21, 12], [21])])
def chain_Put.B1 : List Nat := [0, 1, 3, 7, 15, 31, 63, 127, 255, 511, 1023, 2047, 4095, 8191, 16383, 8191, 40959, 106495, 237567, 524287, 1048575, 2097151, 4194303]
theorem chain_Put.tab1 : rtab .any (opsOf Try.f16 1) = chain_Put.T1 := by kernel_rfl
theorem chain_Put.bits1 : waitsOk chain_Put.T1.2 chain_Put.B1 = true := by kernel_rfl
set_option maxHeartbeats 8000000 in
set_option maxRecDepth 100000 in
theorem chain_Put.calls (k : Nat) (A0 : Option Addr) (c0 : Nat) (l0 : List (S24)) (a1_0 : Int) (a1_1 : Bool) (a1_2 : Int) (a1_3 : ByteArray) (A1_4 : Option Addr) (c1_4 : Nat) (l1_4 : List (S72)) (r1 : List (S24)) (r2 : Int) (w : World) (hr0 : Kd.C k24 w A0 l0.length l0) (hc0 : l0.length ≤ c0) (hr1_4 : Kd.C k72 w A1_4 l1_4.length l1_4) (hc1_4 : l1_4.length ≤ c1_4) (h : chain_Put.f k l0 a1_0 a1_1 a1_2 a1_3 l1_4 = some (r1, r2)) :
  Calls Try.prog 16 #[.slice A0 l0.length c0, .agg #[.int .i64 a1_0, .bool a1_1, .int .i64 a1_2, .string a1_3, .slice A1_4 l1_4.length c1_4]] w fun e w' => ∃ v0_ : Value, e = .returned (.tuple #[v0_, .int .i64 r2]) ∧ Kd.N k24 24 w' w.heap.size (fun k_ => (w.heap.size ≤ k_)) v0_ r1 ∧ Below w.heap.size w w' := by
 have hu24 := Try.underlying24
 have HR0 := zahap hr0
 have HC0 := zahap hc0
 clear hr0 hc0
 have HR1_4 := zahap hr1_4
 have HC1_4 := zahap hc1_4
 clear hr1_4 hc1_4
 have HB := zahap (Below.refl w.heap.size w)
 have H : ((chain_right.f k l0).bind fun t144 => (if t144 = true then ((chain_Check.f k a1_0 a1_1 a1_2 a1_3 l1_4).bind fun t145 => (if t145 = 0 then (if (l0.length : Int) > 0 then (if 0 < (l0.length : Int) then (chain_Put.j0 k l0 (decide (a1_0 ≤ ((rd_T24 l0 0).f0))) a1_0 a1_1 a1_2 a1_3 l1_4) else (none)) else (chain_Put.j0 k l0 false a1_0 a1_1 a1_2 a1_3 l1_4)) else (chain_Put.j0 k l0 true a1_0 a1_1 a1_2 a1_3 l1_4))) else (chain_Put.j0 k l0 true a1_0 a1_1 a1_2 a1_3 l1_4))) = some (r1, r2) := h
 clear h
 have HC3 := zahap H
 clear H
 go_enter Try.func16, Try.ntmps16
 go_upto_region 1 with (first | ((with_reducible refine gate_dst (N := 3) rfl ?_); (try (refine gate_guard (by rfl) ?_; dsimp only)); refine box_event ?hg (N := 3) ?hd (cs := #[.int .i64 a1_0, .bool a1_1, .int .i64 a1_2, .string a1_3, .slice A1_4 l1_4.length c1_4]) (t := 24) ?hr ?_; (case hd => rfl); (case hg => rfl); (case hr => first | (go_simp; done) | (go_simp; rfl)); intro zahar hg w4 hbox hb; have n0_ := zahap (below_step (zh0 HB) hb); have n1_ := zahap (hbox); have n2_ := zns hg (zh0 HB); have n3_ := zns hg (zh0 HB); clear HB; have HB := n0_; have zahaq := n1_; have zahbj := n2_; have zahas := n3_; clear n0_ n1_ n2_ n3_; clear hb hbox hg))
 (try simp only [Act.put, zahaa, zahab, zahac])
 go_cut [6] (fun v6 wc => ∃ (kq : Nat) (zahat : Bool), v6 = .bool zahat ∧ Aside0 (chain_Put.j0 kq l0 zahat a1_0 a1_1 a1_2 a1_3 l1_4 = some (r1, r2)) ∧ Aside0 (kq ≤ k) ∧ Aside0 (wc.heap[zahar]? = some (.cells #[.int .i64 a1_0, .bool a1_1, .int .i64 a1_2, .string a1_3, (.slice A1_4 l1_4.length c1_4)] 24 (0, 0))) ∧ Aside0 (Below w.heap.size w wc))
 case first =>
  have H := HC3.out
  clear HC3
  replace H := Option.bind_eq_some_iff.mp H
  obtain ⟨t144, A50, H⟩ := H
  replace H : (if t144 = true then ((chain_Check.f k a1_0 a1_1 a1_2 a1_3 l1_4).bind fun t145 => (if t145 = 0 then (if (l0.length : Int) > 0 then (if 0 < (l0.length : Int) then (chain_Put.j0 k l0 (decide (a1_0 ≤ ((rd_T24 l0 0).f0))) a1_0 a1_1 a1_2 a1_3 l1_4) else (none)) else (chain_Put.j0 k l0 false a1_0 a1_1 a1_2 a1_3 l1_4)) else (chain_Put.j0 k l0 true a1_0 a1_1 a1_2 a1_3 l1_4))) else (chain_Put.j0 k l0 true a1_0 a1_1 a1_2 a1_3 l1_4)) = some (r1, r2) := H
  have A5 := zahap A50
  clear A50
  by_cases c6 : t144 = true
  ·subst c6
   have H1 : ((chain_Check.f k a1_0 a1_1 a1_2 a1_3 l1_4).bind fun t145 => (if t145 = 0 then (if (l0.length : Int) > 0 then (if 0 < (l0.length : Int) then (chain_Put.j0 k l0 (decide (a1_0 ≤ ((rd_T24 l0 0).f0))) a1_0 a1_1 a1_2 a1_3 l1_4) else (none)) else (chain_Put.j0 k l0 false a1_0 a1_1 a1_2 a1_3 l1_4)) else (chain_Put.j0 k l0 true a1_0 a1_1 a1_2 a1_3 l1_4))) = some (r1, r2) := by rw [if_pos rfl] at H; exact H
   clear H
   have H := H1
   clear H1
   replace H := Option.bind_eq_some_iff.mp H
   obtain ⟨t145, A70, H⟩ := H
   replace H : (if t145 = 0 then (if (l0.length : Int) > 0 then (if 0 < (l0.length : Int) then (chain_Put.j0 k l0 (decide (a1_0 ≤ ((rd_T24 l0 0).f0))) a1_0 a1_1 a1_2 a1_3 l1_4) else (none)) else (chain_Put.j0 k l0 false a1_0 a1_1 a1_2 a1_3 l1_4)) else (chain_Put.j0 k l0 true a1_0 a1_1 a1_2 a1_3 l1_4)) = some (r1, r2) := H
   have A7 := zahap A70
   clear A70
   by_cases c8 : t145 = 0
   ·rw [if_pos c8] at H
    have c8b0 : (t145 == 0) = true := beq_iff_eq.mpr c8
    have c8b1 : (t145 != 0) = false := bne_eq_false_iff_eq.mpr c8
    clear c8
    (first | rw [c8b0] | (simp only [i64_w, i32_w]; rw [c8b0]) | skip)
    by_cases c9 : (l0.length : Int) > 0
    ·rw [if_pos c9] at H
     have c9b0 : decide (0 < (l0.length : Int)) = true := decide_eq_true c9
     have c9b1 : decide (0 < l0.length) = true := decide_eq_true (by omega)
     clear c9
     by_cases c10 : 0 < (l0.length : Int)
     ·rw [if_pos c10] at H
      have c10b0 : decide (0 < (l0.length : Int)) = true := decide_eq_true c10
      have c10b1 : decide (0 < l0.length) = true := decide_eq_true (by omega)
      clear c10
      have H' := zahap H
      clear H
      try go_wp2
      have n0_ := zahap (zahag zahaq.out)
      have n1_ := zahap (zahaj HB.out)
      clear zahaq
      clear HB
      have zahaq := n0_
      have HB := n1_
      clear n0_ n1_
      have p146 : 0 ≤ (0 : Int) := (by omega)
      have q146 : 0 < (l0.length : Int) := of_decide_eq_true (by first | (with_reducible assumption) | assumption)
      obtain ⟨ad146, A146_4, c146_4, e146, hx146_0, hx146_1, hx146_2, hx146_3, hx146_4, hl146_4, hi146_4⟩ := at_T24 HR0.out 0 p146 q146
      have hw146_4 := hx146_4
      (try rw [show ((0 : Int)).toNat = 0 from rfl] at hw146_4)
      (try rw [show 0 * 5 = 0 from rfl] at hw146_4)
      (try rw [Addr.add_zero'] at hw146_4)
      have hw146_3 := hx146_3
      (try rw [show ((0 : Int)).toNat = 0 from rfl] at hw146_3)
      (try rw [show 0 * 5 = 0 from rfl] at hw146_3)
      (try rw [Addr.add_zero'] at hw146_3)
      have hw146_2 := hx146_2
      (try rw [show ((0 : Int)).toNat = 0 from rfl] at hw146_2)
      (try rw [show 0 * 5 = 0 from rfl] at hw146_2)
      (try rw [Addr.add_zero'] at hw146_2)
      have hw146_1 := hx146_1
      (try rw [show ((0 : Int)).toNat = 0 from rfl] at hw146_1)
      (try rw [show 0 * 5 = 0 from rfl] at hw146_1)
      (try rw [Addr.add_zero'] at hw146_1)
      have hw146_0 := hx146_0
      (try rw [show ((0 : Int)).toNat = 0 from rfl] at hw146_0)
      (try rw [show 0 * 5 = 0 from rfl] at hw146_0)
      (try rw [Addr.add_zero'] at hw146_0)
      cases e146
      have qi146 : (0 < l0.length) = True := eq_true (by omega)
      (try rw [show ((0 : Int)).toNat = 0 from rfl] at hx146_0)
      (try rw [show 0 * 5 = 0 from rfl] at hx146_0)
      (try rw [Addr.add_zero'] at hx146_0)
      (try rw [show ((0 : Int)).toNat = 0 from rfl] at hx146_1)
      (try rw [show 0 * 5 = 0 from rfl] at hx146_1)
      (try rw [Addr.add_zero'] at hx146_1)
      (try rw [show ((0 : Int)).toNat = 0 from rfl] at hx146_2)
      (try rw [show 0 * 5 = 0 from rfl] at hx146_2)
      (try rw [Addr.add_zero'] at hx146_2)
      (try rw [show ((0 : Int)).toNat = 0 from rfl] at hx146_3)
      (try rw [show 0 * 5 = 0 from rfl] at hx146_3)
      (try rw [Addr.add_zero'] at hx146_3)
      (try rw [show ((0 : Int)).toNat = 0 from rfl] at hx146_4)
      (try rw [show 0 * 5 = 0 from rfl] at hx146_4)
      (try rw [Addr.add_zero'] at hx146_4)
      replace hx146_0 := (HB.out.cell (zahad w _ hx146_0)).trans hx146_0
      replace hx146_1 := (HB.out.cell (zahad w _ hx146_1)).trans hx146_1
      replace hx146_2 := (HB.out.cell (zahad w _ hx146_2)).trans hx146_2
      replace hx146_3 := (HB.out.cell (zahad w _ hx146_3)).trans hx146_3
      replace hx146_4 := (HB.out.cell (zahad w _ hx146_4)).trans hx146_4
      have HR146_4 := zahap hi146_4
      have HC146_4 := zahap hl146_4
      clear hi146_4 hl146_4
      replace p146 := eq_true p146
      replace q146 := eq_true q146
      refine start_ (n := 23) (S := fun w' => w'.cell? ⟨zahar, 0, none⟩ = some (.int .i64 a1_0) ∧ w'.cell? ⟨zahar, 1, none⟩ = some (.bool a1_1) ∧ w'.cell? ⟨zahar, 2, none⟩ = some (.int .i64 a1_2) ∧ w'.cell? ⟨zahar, 3, none⟩ = some (.string a1_3) ∧ w'.cell? ⟨zahar, 4, none⟩ = some (.slice A1_4 l1_4.length c1_4) ∧ w'.cell? ad146 = some (.int .i64 ((rd_T24 l0 0).f0)) ∧ w'.cell? ⟨ad146.block, ad146.off + 1, none⟩ = some (.bool ((rd_T24 l0 0).f1)) ∧ w'.cell? ⟨ad146.block, ad146.off + 2, none⟩ = some (.int .i64 ((rd_T24 l0 0).f2)) ∧ w'.cell? ⟨ad146.block, ad146.off + 3, none⟩ = some (.string ((rd_T24 l0 0).f3)) ∧ w'.cell? ⟨ad146.block, ad146.off + 4, none⟩ = some (.slice A146_4 ((rd_T24 l0 0).f4).length c146_4)) (ds := []) zahsq0 (by kernel_rfl) rfl rfl ⟨(zahal zahaq.out 0).trans rfl, (zahal zahaq.out 1).trans rfl, (zahal zahaq.out 2).trans rfl, (zahal zahaq.out 3).trans rfl, (zahal zahaq.out 4).trans rfl, ((HB.out.cell (zahad w _ hw146_0)).trans hw146_0), ((HB.out.cell (zahad w _ hw146_1)).trans hw146_1), ((HB.out.cell (zahad w _ hw146_2)).trans hw146_2), ((HB.out.cell (zahad w _ hw146_3)).trans hw146_3), ((HB.out.cell (zahad w _ hw146_4)).trans hw146_4)⟩ (fun hHeld => ?_); refine with_tabW chain_Put.tab1 chain_Put.bits1 (fun HT_ HW_ => ?_)
      generalize w4.drew = w11 at zahaq HB HR146_4 hx146_0 hx146_1 hx146_2 hx146_3 hx146_4 hHeld ⊢
      refine pure_ (i := 0) (N := some 7) (v := ?_) (a' := ?_) zahsq1 rfl rfl (any_of HT_.out (by kernel_rfl)) (fun _ _ _ h => h) (Or.inl ⟨by rfl, ?_⟩) ?_ ?_
      rotate_left
      ·intro w'
       go_simp
       with_reducible rfl
      rotate_left
      ·simp only [Act.put, zahaa, zahab, zahac, i64_w, i32_w]
       rfl
      refine one_ (i := 1) (N := some 8) zahsq2 rfl rfl (one_of HT_.out (by kernel_rfl)) (by decide) (fun K hK => ?_)
      refine goes_ Try.func37 (by kernel_rfl) rfl #[.slice (some ad146) l0.length c0] (by rfl) rfl rfl (by (try simp only [zaham, zahan, zahao]); first | done | rfl) ?_
      with_reducible refine (chain_right.calls k _ _ l0 true _ ?side1 ?side2 A5.out).mono ?_
      (case side1 => repeat (first | exact (Kd.C_below HR0.out HB.out) | (with_reducible refine Kd.C_alloc ?_ _) | (with_reducible refine Kd.C_drewN ?_ _) | (with_reducible refine Kd.C_drew ?_)))
      (case side2 => exact HC0.out)
      rintro e w12 ⟨rfl, hb⟩
      refine ⟨_, rfl, ?_⟩
      have n0_ := zbb zahaq hb
      have n1_ := zahap (below_step (zh1 HB zahas) hb)
      clear zahaq
      clear HB
      have zahaq := n0_
      have HB := n1_
      clear n0_ n1_
      (try clear hb)
      (try clear hb2)
      (try clear hk)
      (try clear hi)
      refine hK.out _ _ ⟨(zahal zahaq.out 0).trans rfl, (zahal zahaq.out 1).trans rfl, (zahal zahaq.out 2).trans rfl, (zahal zahaq.out 3).trans rfl, (zahal zahaq.out 4).trans rfl, ((HB.out.cell (zahad w _ hw146_0)).trans hw146_0), ((HB.out.cell (zahad w _ hw146_1)).trans hw146_1), ((HB.out.cell (zahad w _ hw146_2)).trans hw146_2), ((HB.out.cell (zahad w _ hw146_3)).trans hw146_3), ((HB.out.cell (zahad w _ hw146_4)).trans hw146_4)⟩ (fun hHeld => ?_)
      clear hK K
      refine norm_ (a' := ?_) ?_ ?_
      rotate_left
      ·show Act.put _ (some 8) _ = _
       simp only [Act.put, zahaa, zahab, zahac, i64_w, i32_w]
       rfl
      refine pure_ (i := 2) (N := some 9) (v := ?_) (a' := ?_) zahsq3 rfl rfl (any_of HT_.out (by kernel_rfl)) (fun _ _ _ h => h) (Or.inl ⟨by rfl, ?_⟩) ?_ ?_
      rotate_left
      ·intro w'
       go_simp
       with_reducible rfl
      rotate_left
      ·simp only [Act.put, zahaa, zahab, zahac, i64_w, i32_w]
       rfl
      refine pure_ (i := 3) (N := some 10) (v := ?_) (a' := ?_) zahsq4 rfl rfl (any_of HT_.out (by kernel_rfl)) (fun _ _ _ h => h) (Or.inl ⟨by rfl, ?_⟩) ?_ ?_
      rotate_left
      ·intro w'
       go_simp
       with_reducible rfl
      rotate_left
      ·simp only [Act.put, zahaa, zahab, zahac, i64_w, i32_w]
       rfl
      refine take_ (i := 4) (N := some 11) (v := ?_) (a' := ?_) zahsq5 rfl rfl (take_ofW HT_.out HW_.out (by kernel_rfl)) (fun _ _ _ h => h) (Or.inl ⟨by rfl, ?_⟩) hHeld ?_ ?_
      rotate_left
      ·rintro w' ⟨s0, s1, s2, s3, s4, s5, s6, s7, s8, s9⟩
       go_simp
       with_reducible rfl
      rotate_left
      ·simp only [Act.put, zahaa, zahab, zahac, i64_w, i32_w]
       rfl
      refine one_ (i := 5) (N := some 12) zahsq6 rfl rfl (one_of HT_.out (by kernel_rfl)) (by decide) (fun K hK => ?_)
      refine goes_ Try.func13 (by kernel_rfl) rfl #[.agg #[.int .i64 a1_0, .bool a1_1, .int .i64 a1_2, .string a1_3, .slice A1_4 l1_4.length c1_4]] (by rfl) rfl rfl (by (try simp only [zaham, zahan, zahao]); first | done | rfl) ?_
      with_reducible refine (chain_Check.calls k a1_0 a1_1 a1_2 a1_3 _ _ l1_4 t145 _ ?side1 ?side2 A7.out).mono ?_
      (case side1 => repeat (first | exact (Kd.C_below HR1_4.out HB.out) | (with_reducible refine Kd.C_alloc ?_ _) | (with_reducible refine Kd.C_drewN ?_ _) | (with_reducible refine Kd.C_drew ?_)))
      (case side2 => exact HC1_4.out)
      rintro e w13 ⟨rfl, hb⟩
      refine ⟨_, rfl, ?_⟩
      have n0_ := zbb zahaq hb
      have n1_ := zahap (below_step (zh1 HB zahas) hb)
      clear zahaq
      clear HB
      have zahaq := n0_
      have HB := n1_
      clear n0_ n1_
      (try clear hb)
      (try clear hb2)
      (try clear hk)
      (try clear hi)
      refine hK.out _ _ ⟨(zahal zahaq.out 0).trans rfl, (zahal zahaq.out 1).trans rfl, (zahal zahaq.out 2).trans rfl, (zahal zahaq.out 3).trans rfl, (zahal zahaq.out 4).trans rfl, ((HB.out.cell (zahad w _ hw146_0)).trans hw146_0), ((HB.out.cell (zahad w _ hw146_1)).trans hw146_1), ((HB.out.cell (zahad w _ hw146_2)).trans hw146_2), ((HB.out.cell (zahad w _ hw146_3)).trans hw146_3), ((HB.out.cell (zahad w _ hw146_4)).trans hw146_4)⟩ (fun hHeld => ?_)
      clear hK K
      refine norm_ (a' := ?_) ?_ ?_
      rotate_left
      ·show Act.put _ (some 12) _ = _
       simp only [Act.put, zahaa, zahab, zahac, i64_w, i32_w]
       rfl
      refine pure_ (i := 6) (N := some 13) (v := ?_) (a' := ?_) zahsq7 rfl rfl (any_of HT_.out (by kernel_rfl)) (fun _ _ _ h => h) (Or.inl ⟨by rfl, ?_⟩) ?_ ?_
      rotate_left
      ·intro w'
       go_simp
       with_reducible rfl
      rotate_left
      ·simp only [Act.put, zahaa, zahab, zahac, i64_w, i32_w]
       rfl
      refine pure_ (i := 7) (N := some 14) (v := ?_) (a' := ?_) zahsq8 rfl rfl (any_of HT_.out (by kernel_rfl)) (fun _ _ _ h => h) (Or.inl ⟨by rfl, ?_⟩) ?_ ?_
      rotate_left
      ·intro w'
       go_simp
       with_reducible rfl
      rotate_left
      ·simp only [Act.put, zahaa, zahab, zahac, i64_w, i32_w]
       rfl
      refine pure_ (i := 8) (N := some 15) (v := ?_) (a' := ?_) zahsq9 rfl rfl (any_of HT_.out (by kernel_rfl)) (fun _ _ _ h => h) (Or.inl ⟨by rfl, ?_⟩) ?_ ?_
      rotate_left
      ·intro w'
       go_simp
       with_reducible rfl
      rotate_left
      ·simp only [Act.put, zahaa, zahab, zahac, i64_w, i32_w]
       rfl
      refine pure_ (i := 9) (N := some 16) (v := ?_) (a' := ?_) zahsq10 rfl rfl (any_of HT_.out (by kernel_rfl)) (fun _ _ _ h => h) (Or.inl ⟨by rfl, ?_⟩) ?_ ?_
      rotate_left
      ·intro w'
       go_simp
       with_reducible rfl
      rotate_left
      ·simp only [Act.put, zahaa, zahab, zahac, i64_w, i32_w]
       rfl
      refine pure_ (i := 10) (N := some 17) (v := ?_) (a' := ?_) zahsq11 rfl rfl (any_of HT_.out (by kernel_rfl)) (fun _ _ _ h => h) (Or.inl ⟨by rfl, ?_⟩) ?_ ?_
      rotate_left
      ·intro w'
       go_simp
       with_reducible rfl
      rotate_left
      ·simp only [Act.put, zahaa, zahab, zahac, i64_w, i32_w]
       rfl
      refine pure_ (i := 11) (N := some 18) (v := ?_) (a' := ?_) zahsq12 rfl rfl (any_of HT_.out (by kernel_rfl)) (fun _ _ _ h => h) (Or.inl ⟨by rfl, ?_⟩) ?_ ?_
      rotate_left
      ·intro w'
       go_simp
       with_reducible rfl
      rotate_left
      ·simp only [Act.put, zahaa, zahab, zahac, i64_w, i32_w]
       rfl
      refine pure_ (i := 12) (N := some 19) (v := ?_) (a' := ?_) zahsq13 rfl rfl (any_of HT_.out (by kernel_rfl)) (fun _ _ _ h => h) (Or.inl ⟨by rfl, ?_⟩) ?_ ?_
      rotate_left
      ·intro w'
       go_simp
       with_reducible rfl
      rotate_left
      ·simp only [Act.put, zahaa, zahab, zahac, i64_w, i32_w]
       rfl
      refine pure_ (i := 13) (N := some 20) (v := ?_) (a' := ?_) zahsq14 rfl rfl (any_of HT_.out (by kernel_rfl)) (fun _ _ _ h => h) (Or.inl ⟨by rfl, ?_⟩) ?_ ?_
      rotate_left
      ·intro w'
       go_simp
       with_reducible rfl
      rotate_left
      ·simp only [Act.put, zahaa, zahab, zahac, i64_w, i32_w]
       rfl
      refine pure_ (i := 15) (N := some 22) (v := ?_) (a' := ?_) zahsq15 rfl rfl (any_of HT_.out (by kernel_rfl)) (fun _ _ _ h => h) (Or.inl ⟨by rfl, ?_⟩) ?_ ?_
      rotate_left
      ·intro w'
       go_simp
       with_reducible rfl
      rotate_left
      ·simp only [Act.put, zahaa, zahab, zahac, i64_w, i32_w]
       rfl
      refine pure_ (i := 16) (N := some 23) (v := ?_) (a' := ?_) zahsq16 rfl rfl (any_of HT_.out (by kernel_rfl)) (fun _ _ _ h => h) (Or.inl ⟨by rfl, ?_⟩) ?_ ?_
      rotate_left
      ·intro w'
       go_simp
       with_reducible rfl
      rotate_left
      ·simp only [Act.put, zahaa, zahab, zahac, i64_w, i32_w]
       rfl
      refine pure_ (i := 17) (N := some 24) (v := ?_) (a' := ?_) zahsq17 rfl rfl (any_of HT_.out (by kernel_rfl)) (fun _ _ _ h => h) (Or.inl ⟨by rfl, ?_⟩) ?_ ?_
      rotate_left
      ·intro w'
       go_simp
       with_reducible rfl
      rotate_left
      ·simp only [Act.put, zahaa, zahab, zahac, i64_w, i32_w]
       rfl
      refine take_ (i := 14) (N := some 21) (v := ?_) (a' := ?_) zahsq18 rfl rfl (take_ofW HT_.out HW_.out (by kernel_rfl)) (fun _ _ _ h => h) (Or.inl ⟨by rfl, ?_⟩) hHeld ?_ ?_
      rotate_left
      ·rintro w' ⟨s0, s1, s2, s3, s4, s5, s6, s7, s8, s9⟩
       go_simp
       with_reducible rfl
      rotate_left
      ·simp only [Act.put, zahaa, zahab, zahac, i64_w, i32_w]
       rfl
      refine take_ (i := 18) (N := some 25) (v := ?_) (a' := ?_) zahsq19 rfl rfl (take_ofW HT_.out HW_.out (by kernel_rfl)) (fun _ _ _ h => h) (Or.inl ⟨by rfl, ?_⟩) hHeld ?_ ?_
      rotate_left
      ·rintro w' ⟨s0, s1, s2, s3, s4, s5, s6, s7, s8, s9⟩
       go_simp
       with_reducible rfl
      rotate_left
      ·simp only [Act.put, zahaa, zahab, zahac, i64_w, i32_w]
       rfl
      refine pure_ (i := 19) (N := some 26) (v := ?_) (a' := ?_) zahsq20 rfl rfl (any_of HT_.out (by kernel_rfl)) (fun _ _ _ h => h) (Or.inl ⟨by rfl, ?_⟩) ?_ ?_
      rotate_left
      ·intro w'
       go_simp
       with_reducible rfl
      rotate_left
      ·simp only [Act.put, zahaa, zahab, zahac, i64_w, i32_w]
       rfl
      refine pure_ (i := 20) (N := some 27) (v := ?_) (a' := ?_) zahsq21 rfl rfl (any_of HT_.out (by kernel_rfl)) (fun _ _ _ h => h) (Or.inl ⟨by rfl, ?_⟩) ?_ ?_
      rotate_left
      ·intro w'
       go_simp
       with_reducible rfl
      rotate_left
      ·simp only [Act.put, zahaa, zahab, zahac, i64_w, i32_w]
       rfl
      refine pure_ (i := 21) (N := some 28) (v := ?_) (a' := ?_) zahsq22 rfl rfl (any_of HT_.out (by kernel_rfl)) (fun _ _ _ h => h) (Or.inl ⟨by rfl, ?_⟩) ?_ ?_
      rotate_left
      ·intro w'
       go_simp
       with_reducible rfl
      rotate_left
      ·simp only [Act.put, zahaa, zahab, zahac, i64_w, i32_w]
       rfl
      refine pure_ (i := 22) (N := some 6) (v := ?_) (a' := ?_) zahsq23 rfl rfl (any_of HT_.out (by kernel_rfl)) (fun _ _ _ h => h) (Or.inl ⟨by rfl, ?_⟩) ?_ ?_
      rotate_left
      ·intro w'
       go_simp
       with_reducible rfl
      rotate_left
      ·simp only [Act.put, zahaa, zahab, zahac, i64_w, i32_w]
       rfl
      refine done_ (done_of HT_.out (by kernel_rfl)) ?_
      try go_wp2
      go_meet
      case rel => exact ⟨_, (decide (a1_0 ≤ ((rd_T24 l0 0).f0))), (by first | rfl | (simp; done) | (simp [*]; done)), H', ⟨by first | omega | exact Nat.le_refl _⟩, ⟨zbk zahaq⟩, ⟨zh1 HB zahas⟩⟩
     ·rw [if_neg c10] at H
      exact absurd H (by simp)
    ·rw [if_neg c9] at H
     have c9b0 : decide (0 < (l0.length : Int)) = false := decide_eq_false c9
     have c9b1 : decide (0 < l0.length) = false := decide_eq_false (by omega)
     clear c9
     have H' := zahap H
     clear H
     try go_wp2
     have n0_ := zahap (zahag zahaq.out)
     have n1_ := zahap (zahaj HB.out)
     clear zahaq
     clear HB
     have zahaq := n0_
     have HB := n1_
     clear n0_ n1_
     refine start_ (n := 23) (S := fun w' => w'.cell? ⟨zahar, 0, none⟩ = some (.int .i64 a1_0) ∧ w'.cell? ⟨zahar, 1, none⟩ = some (.bool a1_1) ∧ w'.cell? ⟨zahar, 2, none⟩ = some (.int .i64 a1_2) ∧ w'.cell? ⟨zahar, 3, none⟩ = some (.string a1_3) ∧ w'.cell? ⟨zahar, 4, none⟩ = some (.slice A1_4 l1_4.length c1_4)) (ds := []) zahsq0 (by kernel_rfl) rfl rfl ⟨(zahal zahaq.out 0).trans rfl, (zahal zahaq.out 1).trans rfl, (zahal zahaq.out 2).trans rfl, (zahal zahaq.out 3).trans rfl, (zahal zahaq.out 4).trans rfl⟩ (fun hHeld => ?_); refine with_tabW chain_Put.tab1 chain_Put.bits1 (fun HT_ HW_ => ?_)
     generalize w4.drew = w14 at zahaq HB hHeld ⊢
     refine pure_ (i := 0) (N := some 7) (v := ?_) (a' := ?_) zahsq1 rfl rfl (any_of HT_.out (by kernel_rfl)) (fun _ _ _ h => h) (Or.inl ⟨by rfl, ?_⟩) ?_ ?_
     rotate_left
     ·intro w'
      go_simp
      with_reducible rfl
     rotate_left
     ·simp only [Act.put, zahaa, zahab, zahac, i64_w, i32_w]
      rfl
     refine one_ (i := 1) (N := some 8) zahsq2 rfl rfl (one_of HT_.out (by kernel_rfl)) (by decide) (fun K hK => ?_)
     refine goes_ Try.func37 (by kernel_rfl) rfl #[.slice A0 l0.length c0] (by rfl) rfl rfl (by (try simp only [zaham, zahan, zahao]); first | done | rfl) ?_
     with_reducible refine (chain_right.calls k _ _ l0 true _ ?side1 ?side2 A5.out).mono ?_
     (case side1 => repeat (first | exact (Kd.C_below HR0.out HB.out) | (with_reducible refine Kd.C_alloc ?_ _) | (with_reducible refine Kd.C_drewN ?_ _) | (with_reducible refine Kd.C_drew ?_)))
     (case side2 => exact HC0.out)
     rintro e w15 ⟨rfl, hb⟩
     refine ⟨_, rfl, ?_⟩
     have n0_ := zbb zahaq hb
     have n1_ := zahap (below_step (zh1 HB zahas) hb)
     clear zahaq
     clear HB
     have zahaq := n0_
     have HB := n1_
     clear n0_ n1_
     (try clear hb)
     (try clear hb2)
     (try clear hk)
     (try clear hi)
     refine hK.out _ _ ⟨(zahal zahaq.out 0).trans rfl, (zahal zahaq.out 1).trans rfl, (zahal zahaq.out 2).trans rfl, (zahal zahaq.out 3).trans rfl, (zahal zahaq.out 4).trans rfl⟩ (fun hHeld => ?_)
     clear hK K
     refine norm_ (a' := ?_) ?_ ?_
     rotate_left
     ·show Act.put _ (some 8) _ = _
      simp only [Act.put, zahaa, zahab, zahac, i64_w, i32_w]
      rfl
     refine pure_ (i := 2) (N := some 9) (v := ?_) (a' := ?_) zahsq3 rfl rfl (any_of HT_.out (by kernel_rfl)) (fun _ _ _ h => h) (Or.inl ⟨by rfl, ?_⟩) ?_ ?_
     rotate_left
     ·intro w'
      go_simp
      with_reducible rfl
     rotate_left
     ·simp only [Act.put, zahaa, zahab, zahac, i64_w, i32_w]
      rfl
     refine pure_ (i := 3) (N := some 10) (v := ?_) (a' := ?_) zahsq4 rfl rfl (any_of HT_.out (by kernel_rfl)) (fun _ _ _ h => h) (Or.inl ⟨by rfl, ?_⟩) ?_ ?_
     rotate_left
     ·intro w'
      go_simp
      with_reducible rfl
     rotate_left
     ·simp only [Act.put, zahaa, zahab, zahac, i64_w, i32_w]
      rfl
     refine take_ (i := 4) (N := some 11) (v := ?_) (a' := ?_) zahsq5 rfl rfl (take_ofW HT_.out HW_.out (by kernel_rfl)) (fun _ _ _ h => h) (Or.inl ⟨by rfl, ?_⟩) hHeld ?_ ?_
     rotate_left
     ·rintro w' ⟨s0, s1, s2, s3, s4⟩
      go_simp
      with_reducible rfl
     rotate_left
     ·simp only [Act.put, zahaa, zahab, zahac, i64_w, i32_w]
      rfl
     refine one_ (i := 5) (N := some 12) zahsq6 rfl rfl (one_of HT_.out (by kernel_rfl)) (by decide) (fun K hK => ?_)
     refine goes_ Try.func13 (by kernel_rfl) rfl #[.agg #[.int .i64 a1_0, .bool a1_1, .int .i64 a1_2, .string a1_3, .slice A1_4 l1_4.length c1_4]] (by rfl) rfl rfl (by (try simp only [zaham, zahan, zahao]); first | done | rfl) ?_
     with_reducible refine (chain_Check.calls k a1_0 a1_1 a1_2 a1_3 _ _ l1_4 t145 _ ?side1 ?side2 A7.out).mono ?_
     (case side1 => repeat (first | exact (Kd.C_below HR1_4.out HB.out) | (with_reducible refine Kd.C_alloc ?_ _) | (with_reducible refine Kd.C_drewN ?_ _) | (with_reducible refine Kd.C_drew ?_)))
     (case side2 => exact HC1_4.out)
     rintro e w16 ⟨rfl, hb⟩
     refine ⟨_, rfl, ?_⟩
     have n0_ := zbb zahaq hb
     have n1_ := zahap (below_step (zh1 HB zahas) hb)
     clear zahaq
     clear HB
     have zahaq := n0_
     have HB := n1_
     clear n0_ n1_
     (try clear hb)
     (try clear hb2)
     (try clear hk)
     (try clear hi)
     refine hK.out _ _ ⟨(zahal zahaq.out 0).trans rfl, (zahal zahaq.out 1).trans rfl, (zahal zahaq.out 2).trans rfl, (zahal zahaq.out 3).trans rfl, (zahal zahaq.out 4).trans rfl⟩ (fun hHeld => ?_)
     clear hK K
     refine norm_ (a' := ?_) ?_ ?_
     rotate_left
     ·show Act.put _ (some 12) _ = _
      simp only [Act.put, zahaa, zahab, zahac, i64_w, i32_w]
      rfl
     refine pure_ (i := 6) (N := some 13) (v := ?_) (a' := ?_) zahsq7 rfl rfl (any_of HT_.out (by kernel_rfl)) (fun _ _ _ h => h) (Or.inl ⟨by rfl, ?_⟩) ?_ ?_
     rotate_left
     ·intro w'
      go_simp
      with_reducible rfl
     rotate_left
     ·simp only [Act.put, zahaa, zahab, zahac, i64_w, i32_w]
      rfl
     refine pure_ (i := 7) (N := some 14) (v := ?_) (a' := ?_) zahsq8 rfl rfl (any_of HT_.out (by kernel_rfl)) (fun _ _ _ h => h) (Or.inl ⟨by rfl, ?_⟩) ?_ ?_
     rotate_left
     ·intro w'
      go_simp
      with_reducible rfl
     rotate_left
     ·simp only [Act.put, zahaa, zahab, zahac, i64_w, i32_w]
      rfl
     refine pure_ (i := 8) (N := some 15) (v := ?_) (a' := ?_) zahsq9 rfl rfl (any_of HT_.out (by kernel_rfl)) (fun _ _ _ h => h) (Or.inl ⟨by rfl, ?_⟩) ?_ ?_
     rotate_left
     ·intro w'
      go_simp
      with_reducible rfl
     rotate_left
     ·simp only [Act.put, zahaa, zahab, zahac, i64_w, i32_w]
      rfl
     refine pure_ (i := 9) (N := some 16) (v := ?_) (a' := ?_) zahsq10 rfl rfl (any_of HT_.out (by kernel_rfl)) (fun _ _ _ h => h) (Or.inl ⟨by rfl, ?_⟩) ?_ ?_
     rotate_left
     ·intro w'
      go_simp
      with_reducible rfl
     rotate_left
     ·simp only [Act.put, zahaa, zahab, zahac, i64_w, i32_w]
      rfl
     refine pure_ (i := 10) (N := some 17) (v := ?_) (a' := ?_) zahsq11 rfl rfl (any_of HT_.out (by kernel_rfl)) (fun _ _ _ h => h) (Or.inl ⟨by rfl, ?_⟩) ?_ ?_
     rotate_left
     ·intro w'
      go_simp
      with_reducible rfl
     rotate_left
     ·simp only [Act.put, zahaa, zahab, zahac, i64_w, i32_w]
      rfl
     refine pure_ (i := 11) (N := some 18) (v := ?_) (a' := ?_) zahsq12 rfl rfl (any_of HT_.out (by kernel_rfl)) (fun _ _ _ h => h) (Or.inl ⟨by rfl, ?_⟩) ?_ ?_
     rotate_left
     ·intro w'
      go_simp
      with_reducible rfl
     rotate_left
     ·simp only [Act.put, zahaa, zahab, zahac, i64_w, i32_w]
      rfl
     refine pure_ (i := 12) (N := some 19) (v := ?_) (a' := ?_) zahsq13 rfl rfl (any_of HT_.out (by kernel_rfl)) (fun _ _ _ h => h) (Or.inl ⟨by rfl, ?_⟩) ?_ ?_
     rotate_left
     ·intro w'
      go_simp
      with_reducible rfl
     rotate_left
     ·simp only [Act.put, zahaa, zahab, zahac, i64_w, i32_w]
      rfl
     refine pure_ (i := 13) (N := some 20) (v := undef) (a' := ?_) zahsq14 rfl rfl (any_of HT_.out (by kernel_rfl)) (fun _ _ _ h => h) (Or.inr ⟨by rfl, rfl⟩) ?_ ?_
     rotate_left
     ·simp only [Act.put, zahaa, zahab, zahac, i64_w, i32_w]
      rfl
     refine pure_ (i := 14) (N := some 21) (v := undef) (a' := ?_) zahsq24 rfl rfl (any_of HT_.out (by kernel_rfl)) (fun _ _ _ h => h) (Or.inr ⟨by rfl, rfl⟩) ?_ ?_
     rotate_left
     ·simp only [Act.put, zahaa, zahab, zahac, i64_w, i32_w]
      rfl
     refine pure_ (i := 15) (N := some 22) (v := undef) (a' := ?_) zahsq25 rfl rfl (any_of HT_.out (by kernel_rfl)) (fun _ _ _ h => h) (Or.inr ⟨by rfl, rfl⟩) ?_ ?_
     rotate_left
     ·simp only [Act.put, zahaa, zahab, zahac, i64_w, i32_w]
      rfl
     refine pure_ (i := 16) (N := some 23) (v := undef) (a' := ?_) zahsq26 rfl rfl (any_of HT_.out (by kernel_rfl)) (fun _ _ _ h => h) (Or.inr ⟨by rfl, rfl⟩) ?_ ?_
     rotate_left
     ·simp only [Act.put, zahaa, zahab, zahac, i64_w, i32_w]
      rfl
     refine pure_ (i := 17) (N := some 24) (v := undef) (a' := ?_) zahsq18 rfl rfl (any_of HT_.out (by kernel_rfl)) (fun _ _ _ h => h) (Or.inr ⟨by rfl, rfl⟩) ?_ ?_
     rotate_left
     ·simp only [Act.put, zahaa, zahab, zahac, i64_w, i32_w]
      rfl
     refine pure_ (i := 18) (N := some 25) (v := undef) (a' := ?_) zahsq19 rfl rfl (any_of HT_.out (by kernel_rfl)) (fun _ _ _ h => h) (Or.inr ⟨by rfl, rfl⟩) ?_ ?_
     rotate_left
     ·simp only [Act.put, zahaa, zahab, zahac, i64_w, i32_w]
      rfl
     refine pure_ (i := 19) (N := some 26) (v := undef) (a' := ?_) zahsq20 rfl rfl (any_of HT_.out (by kernel_rfl)) (fun _ _ _ h => h) (Or.inr ⟨by rfl, rfl⟩) ?_ ?_
     rotate_left
     ·simp only [Act.put, zahaa, zahab, zahac, i64_w, i32_w]
      rfl
     refine pure_ (i := 20) (N := some 27) (v := ?_) (a' := ?_) zahsq21 rfl rfl (any_of HT_.out (by kernel_rfl)) (fun _ _ _ h => h) (Or.inl ⟨by rfl, ?_⟩) ?_ ?_
     rotate_left
     ·intro w'
      go_simp
      with_reducible rfl
     rotate_left
     ·simp only [Act.put, zahaa, zahab, zahac, i64_w, i32_w]
      rfl
     refine pure_ (i := 21) (N := some 28) (v := ?_) (a' := ?_) zahsq22 rfl rfl (any_of HT_.out (by kernel_rfl)) (fun _ _ _ h => h) (Or.inl ⟨by rfl, ?_⟩) ?_ ?_
     rotate_left
     ·intro w'
      go_simp
      with_reducible rfl
     rotate_left
     ·simp only [Act.put, zahaa, zahab, zahac, i64_w, i32_w]
      rfl
     refine pure_ (i := 22) (N := some 6) (v := ?_) (a' := ?_) zahsq23 rfl rfl (any_of HT_.out (by kernel_rfl)) (fun _ _ _ h => h) (Or.inl ⟨by rfl, ?_⟩) ?_ ?_
     rotate_left
     ·intro w'
      go_simp
      with_reducible rfl
     rotate_left
     ·simp only [Act.put, zahaa, zahab, zahac, i64_w, i32_w]
      rfl
     refine done_ (done_of HT_.out (by kernel_rfl)) ?_
     try go_wp2
     go_meet
     case rel => exact ⟨_, (false), (by first | rfl | (simp; done) | (simp [*]; done)), H', ⟨by first | omega | exact Nat.le_refl _⟩, ⟨zbk zahaq⟩, ⟨zh1 HB zahas⟩⟩
   ·rw [if_neg c8] at H
    have c8b0 : (t145 == 0) = false := beq_eq_false_iff_ne.mpr c8
    have c8b1 : (t145 != 0) = true := bne_iff_ne.mpr c8
    (first | rw [c8b0] | (simp only [i64_w, i32_w]; rw [c8b0]) | skip)
    have H' := zahap H
    clear H
    try go_wp2
    have n0_ := zahap (zahag zahaq.out)
    have n1_ := zahap (zahaj HB.out)
    clear zahaq
    clear HB
    have zahaq := n0_
    have HB := n1_
    clear n0_ n1_
    refine start_ (n := 23) (S := fun w' => w'.cell? ⟨zahar, 0, none⟩ = some (.int .i64 a1_0) ∧ w'.cell? ⟨zahar, 1, none⟩ = some (.bool a1_1) ∧ w'.cell? ⟨zahar, 2, none⟩ = some (.int .i64 a1_2) ∧ w'.cell? ⟨zahar, 3, none⟩ = some (.string a1_3) ∧ w'.cell? ⟨zahar, 4, none⟩ = some (.slice A1_4 l1_4.length c1_4)) (ds := []) zahsq0 (by kernel_rfl) rfl rfl ⟨(zahal zahaq.out 0).trans rfl, (zahal zahaq.out 1).trans rfl, (zahal zahaq.out 2).trans rfl, (zahal zahaq.out 3).trans rfl, (zahal zahaq.out 4).trans rfl⟩ (fun hHeld => ?_); refine with_tabW chain_Put.tab1 chain_Put.bits1 (fun HT_ HW_ => ?_)
    generalize w4.drew = w17 at zahaq HB hHeld ⊢
    refine pure_ (i := 0) (N := some 7) (v := ?_) (a' := ?_) zahsq1 rfl rfl (any_of HT_.out (by kernel_rfl)) (fun _ _ _ h => h) (Or.inl ⟨by rfl, ?_⟩) ?_ ?_
    rotate_left
    ·intro w'
     go_simp
     with_reducible rfl
    rotate_left
    ·simp only [Act.put, zahaa, zahab, zahac, i64_w, i32_w]
     rfl
    refine one_ (i := 1) (N := some 8) zahsq2 rfl rfl (one_of HT_.out (by kernel_rfl)) (by decide) (fun K hK => ?_)
    refine goes_ Try.func37 (by kernel_rfl) rfl #[.slice A0 l0.length c0] (by rfl) rfl rfl (by (try simp only [zaham, zahan, zahao]); first | done | rfl) ?_
    with_reducible refine (chain_right.calls k _ _ l0 true _ ?side1 ?side2 A5.out).mono ?_
    (case side1 => repeat (first | exact (Kd.C_below HR0.out HB.out) | (with_reducible refine Kd.C_alloc ?_ _) | (with_reducible refine Kd.C_drewN ?_ _) | (with_reducible refine Kd.C_drew ?_)))
    (case side2 => exact HC0.out)
    rintro e w18 ⟨rfl, hb⟩
    refine ⟨_, rfl, ?_⟩
    have n0_ := zbb zahaq hb
    have n1_ := zahap (below_step (zh1 HB zahas) hb)
    clear zahaq
    clear HB
    have zahaq := n0_
    have HB := n1_
    clear n0_ n1_
    (try clear hb)
    (try clear hb2)
    (try clear hk)
    (try clear hi)
    refine hK.out _ _ ⟨(zahal zahaq.out 0).trans rfl, (zahal zahaq.out 1).trans rfl, (zahal zahaq.out 2).trans rfl, (zahal zahaq.out 3).trans rfl, (zahal zahaq.out 4).trans rfl⟩ (fun hHeld => ?_)
    clear hK K
    refine norm_ (a' := ?_) ?_ ?_
    rotate_left
    ·show Act.put _ (some 8) _ = _
     simp only [Act.put, zahaa, zahab, zahac, i64_w, i32_w]
     rfl
    refine pure_ (i := 2) (N := some 9) (v := ?_) (a' := ?_) zahsq3 rfl rfl (any_of HT_.out (by kernel_rfl)) (fun _ _ _ h => h) (Or.inl ⟨by rfl, ?_⟩) ?_ ?_
    rotate_left
    ·intro w'
     go_simp
     with_reducible rfl
    rotate_left
    ·simp only [Act.put, zahaa, zahab, zahac, i64_w, i32_w]
     rfl
    refine pure_ (i := 3) (N := some 10) (v := ?_) (a' := ?_) zahsq4 rfl rfl (any_of HT_.out (by kernel_rfl)) (fun _ _ _ h => h) (Or.inl ⟨by rfl, ?_⟩) ?_ ?_
    rotate_left
    ·intro w'
     go_simp
     with_reducible rfl
    rotate_left
    ·simp only [Act.put, zahaa, zahab, zahac, i64_w, i32_w]
     rfl
    refine take_ (i := 4) (N := some 11) (v := ?_) (a' := ?_) zahsq5 rfl rfl (take_ofW HT_.out HW_.out (by kernel_rfl)) (fun _ _ _ h => h) (Or.inl ⟨by rfl, ?_⟩) hHeld ?_ ?_
    rotate_left
    ·rintro w' ⟨s0, s1, s2, s3, s4⟩
     go_simp
     with_reducible rfl
    rotate_left
    ·simp only [Act.put, zahaa, zahab, zahac, i64_w, i32_w]
     rfl
    refine one_ (i := 5) (N := some 12) zahsq6 rfl rfl (one_of HT_.out (by kernel_rfl)) (by decide) (fun K hK => ?_)
    refine goes_ Try.func13 (by kernel_rfl) rfl #[.agg #[.int .i64 a1_0, .bool a1_1, .int .i64 a1_2, .string a1_3, .slice A1_4 l1_4.length c1_4]] (by rfl) rfl rfl (by (try simp only [zaham, zahan, zahao]); first | done | rfl) ?_
    with_reducible refine (chain_Check.calls k a1_0 a1_1 a1_2 a1_3 _ _ l1_4 t145 _ ?side1 ?side2 A7.out).mono ?_
    (case side1 => repeat (first | exact (Kd.C_below HR1_4.out HB.out) | (with_reducible refine Kd.C_alloc ?_ _) | (with_reducible refine Kd.C_drewN ?_ _) | (with_reducible refine Kd.C_drew ?_)))
    (case side2 => exact HC1_4.out)
    rintro e w19 ⟨rfl, hb⟩
    refine ⟨_, rfl, ?_⟩
    have n0_ := zbb zahaq hb
    have n1_ := zahap (below_step (zh1 HB zahas) hb)
    clear zahaq
    clear HB
    have zahaq := n0_
    have HB := n1_
    clear n0_ n1_
    (try clear hb)
    (try clear hb2)
    (try clear hk)
    (try clear hi)
    refine hK.out _ _ ⟨(zahal zahaq.out 0).trans rfl, (zahal zahaq.out 1).trans rfl, (zahal zahaq.out 2).trans rfl, (zahal zahaq.out 3).trans rfl, (zahal zahaq.out 4).trans rfl⟩ (fun hHeld => ?_)
    clear hK K
    refine norm_ (a' := ?_) ?_ ?_
    rotate_left
    ·show Act.put _ (some 12) _ = _
     simp only [Act.put, zahaa, zahab, zahac, i64_w, i32_w]
     rfl
    refine pure_ (i := 6) (N := some 13) (v := ?_) (a' := ?_) zahsq7 rfl rfl (any_of HT_.out (by kernel_rfl)) (fun _ _ _ h => h) (Or.inl ⟨by rfl, ?_⟩) ?_ ?_
    rotate_left
    ·intro w'
     go_simp
     with_reducible rfl
    rotate_left
    ·simp only [Act.put, zahaa, zahab, zahac, i64_w, i32_w]
     rfl
    refine pure_ (i := 7) (N := some 14) (v := ?_) (a' := ?_) zahsq8 rfl rfl (any_of HT_.out (by kernel_rfl)) (fun _ _ _ h => h) (Or.inl ⟨by rfl, ?_⟩) ?_ ?_
    rotate_left
    ·intro w'
     go_simp
     with_reducible rfl
    rotate_left
    ·simp only [Act.put, zahaa, zahab, zahac, i64_w, i32_w]
     rfl
    refine pure_ (i := 8) (N := some 15) (v := ?_) (a' := ?_) zahsq9 rfl rfl (any_of HT_.out (by kernel_rfl)) (fun _ _ _ h => h) (Or.inl ⟨by rfl, ?_⟩) ?_ ?_
    rotate_left
    ·intro w'
     go_simp
     with_reducible rfl
    rotate_left
    ·simp only [Act.put, zahaa, zahab, zahac, i64_w, i32_w]
     rfl
    refine pure_ (i := 9) (N := some 16) (v := undef) (a' := ?_) zahsq10 rfl rfl (any_of HT_.out (by kernel_rfl)) (fun _ _ _ h => h) (Or.inr ⟨by rfl, rfl⟩) ?_ ?_
    rotate_left
    ·simp only [Act.put, zahaa, zahab, zahac, i64_w, i32_w]
     rfl
    refine pure_ (i := 10) (N := some 17) (v := undef) (a' := ?_) zahsq11 rfl rfl (any_of HT_.out (by kernel_rfl)) (fun _ _ _ h => h) (Or.inr ⟨by rfl, rfl⟩) ?_ ?_
    rotate_left
    ·simp only [Act.put, zahaa, zahab, zahac, i64_w, i32_w]
     rfl
    refine pure_ (i := 11) (N := some 18) (v := undef) (a' := ?_) zahsq12 rfl rfl (any_of HT_.out (by kernel_rfl)) (fun _ _ _ h => h) (Or.inr ⟨by rfl, rfl⟩) ?_ ?_
    rotate_left
    ·simp only [Act.put, zahaa, zahab, zahac, i64_w, i32_w]
     rfl
    refine pure_ (i := 12) (N := some 19) (v := undef) (a' := ?_) zahsq13 rfl rfl (any_of HT_.out (by kernel_rfl)) (fun _ _ _ h => h) (Or.inr ⟨by rfl, rfl⟩) ?_ ?_
    rotate_left
    ·simp only [Act.put, zahaa, zahab, zahac, i64_w, i32_w]
     rfl
    refine pure_ (i := 13) (N := some 20) (v := undef) (a' := ?_) zahsq14 rfl rfl (any_of HT_.out (by kernel_rfl)) (fun _ _ _ h => h) (Or.inr ⟨by rfl, rfl⟩) ?_ ?_
    rotate_left
    ·simp only [Act.put, zahaa, zahab, zahac, i64_w, i32_w]
     rfl
    refine pure_ (i := 14) (N := some 21) (v := undef) (a' := ?_) zahsq24 rfl rfl (any_of HT_.out (by kernel_rfl)) (fun _ _ _ h => h) (Or.inr ⟨by rfl, rfl⟩) ?_ ?_
    rotate_left
    ·simp only [Act.put, zahaa, zahab, zahac, i64_w, i32_w]
     rfl
    refine pure_ (i := 15) (N := some 22) (v := undef) (a' := ?_) zahsq25 rfl rfl (any_of HT_.out (by kernel_rfl)) (fun _ _ _ h => h) (Or.inr ⟨by rfl, rfl⟩) ?_ ?_
    rotate_left
    ·simp only [Act.put, zahaa, zahab, zahac, i64_w, i32_w]
     rfl
    refine pure_ (i := 16) (N := some 23) (v := undef) (a' := ?_) zahsq26 rfl rfl (any_of HT_.out (by kernel_rfl)) (fun _ _ _ h => h) (Or.inr ⟨by rfl, rfl⟩) ?_ ?_
    rotate_left
    ·simp only [Act.put, zahaa, zahab, zahac, i64_w, i32_w]
     rfl
    refine pure_ (i := 17) (N := some 24) (v := undef) (a' := ?_) zahsq18 rfl rfl (any_of HT_.out (by kernel_rfl)) (fun _ _ _ h => h) (Or.inr ⟨by rfl, rfl⟩) ?_ ?_
    rotate_left
    ·simp only [Act.put, zahaa, zahab, zahac, i64_w, i32_w]
     rfl
    refine pure_ (i := 18) (N := some 25) (v := undef) (a' := ?_) zahsq19 rfl rfl (any_of HT_.out (by kernel_rfl)) (fun _ _ _ h => h) (Or.inr ⟨by rfl, rfl⟩) ?_ ?_
    rotate_left
    ·simp only [Act.put, zahaa, zahab, zahac, i64_w, i32_w]
     rfl
    refine pure_ (i := 19) (N := some 26) (v := undef) (a' := ?_) zahsq20 rfl rfl (any_of HT_.out (by kernel_rfl)) (fun _ _ _ h => h) (Or.inr ⟨by rfl, rfl⟩) ?_ ?_
    rotate_left
    ·simp only [Act.put, zahaa, zahab, zahac, i64_w, i32_w]
     rfl
    refine pure_ (i := 20) (N := some 27) (v := undef) (a' := ?_) zahsq21 rfl rfl (any_of HT_.out (by kernel_rfl)) (fun _ _ _ h => h) (Or.inr ⟨by rfl, rfl⟩) ?_ ?_
    rotate_left
    ·simp only [Act.put, zahaa, zahab, zahac, i64_w, i32_w]
     rfl
    refine pure_ (i := 21) (N := some 28) (v := ?_) (a' := ?_) zahsq22 rfl rfl (any_of HT_.out (by kernel_rfl)) (fun _ _ _ h => h) (Or.inl ⟨by rfl, ?_⟩) ?_ ?_
    rotate_left
    ·intro w'
     go_simp
     with_reducible rfl
    rotate_left
    ·simp only [Act.put, zahaa, zahab, zahac, i64_w, i32_w]
     rfl
    refine pure_ (i := 22) (N := some 6) (v := ?_) (a' := ?_) zahsq23 rfl rfl (any_of HT_.out (by kernel_rfl)) (fun _ _ _ h => h) (Or.inl ⟨by rfl, ?_⟩) ?_ ?_
    rotate_left
    ·intro w'
     go_simp
     with_reducible rfl
    rotate_left
    ·simp only [Act.put, zahaa, zahab, zahac, i64_w, i32_w]
     rfl
    refine done_ (done_of HT_.out (by kernel_rfl)) ?_
    try go_wp2
    go_meet
    case rel => exact ⟨_, (true), (by first | rfl | (simp; done) | (simp [*]; done)), H', ⟨by first | omega | exact Nat.le_refl _⟩, ⟨zbk zahaq⟩, ⟨zh1 HB zahas⟩⟩
  ·replace c6 := Bool.eq_false_iff.mpr c6
   subst c6
   have H1 : (chain_Put.j0 k l0 true a1_0 a1_1 a1_2 a1_3 l1_4) = some (r1, r2) := by rw [if_neg (show ¬ (false = true) by decide)] at H; exact H
   clear H
   have H := H1
   clear H1
   have H' := zahap H
   clear H
   try go_wp2
   have n0_ := zahap (zahag zahaq.out)
   have n1_ := zahap (zahaj HB.out)
   clear zahaq
   clear HB
   have zahaq := n0_
   have HB := n1_
   clear n0_ n1_
   refine start_ (n := 23) (S := fun w' => True) (ds := []) zahsq0 (by kernel_rfl) rfl rfl trivial (fun hHeld => ?_); refine with_tabW chain_Put.tab1 chain_Put.bits1 (fun HT_ HW_ => ?_)
   generalize w4.drew = w20 at zahaq HB hHeld ⊢
   refine pure_ (i := 0) (N := some 7) (v := ?_) (a' := ?_) zahsq1 rfl rfl (any_of HT_.out (by kernel_rfl)) (fun _ _ _ h => h) (Or.inl ⟨by rfl, ?_⟩) ?_ ?_
   rotate_left
   ·intro w'
    go_simp
    with_reducible rfl
   rotate_left
   ·simp only [Act.put, zahaa, zahab, zahac, i64_w, i32_w]
    rfl
   refine one_ (i := 1) (N := some 8) zahsq2 rfl rfl (one_of HT_.out (by kernel_rfl)) (by decide) (fun K hK => ?_)
   refine goes_ Try.func37 (by kernel_rfl) rfl #[.slice A0 l0.length c0] (by rfl) rfl rfl (by (try simp only [zaham, zahan, zahao]); first | done | rfl) ?_
   with_reducible refine (chain_right.calls k _ _ l0 false _ ?side1 ?side2 A5.out).mono ?_
   (case side1 => repeat (first | exact (Kd.C_below HR0.out HB.out) | (with_reducible refine Kd.C_alloc ?_ _) | (with_reducible refine Kd.C_drewN ?_ _) | (with_reducible refine Kd.C_drew ?_)))
   (case side2 => exact HC0.out)
   rintro e w21 ⟨rfl, hb⟩
   refine ⟨_, rfl, ?_⟩
   have n0_ := zbb zahaq hb
   have n1_ := zahap (below_step (zh1 HB zahas) hb)
   clear zahaq
   clear HB
   have zahaq := n0_
   have HB := n1_
   clear n0_ n1_
   (try clear hb)
   (try clear hb2)
   (try clear hk)
   (try clear hi)
   refine hK.out _ _ trivial (fun hHeld => ?_)
   clear hK K
   refine norm_ (a' := ?_) ?_ ?_
   rotate_left
   ·show Act.put _ (some 8) _ = _
    simp only [Act.put, zahaa, zahab, zahac, i64_w, i32_w]
    rfl
   refine pure_ (i := 2) (N := some 9) (v := ?_) (a' := ?_) zahsq3 rfl rfl (any_of HT_.out (by kernel_rfl)) (fun _ _ _ h => h) (Or.inl ⟨by rfl, ?_⟩) ?_ ?_
   rotate_left
   ·intro w'
    go_simp
    with_reducible rfl
   rotate_left
   ·simp only [Act.put, zahaa, zahab, zahac, i64_w, i32_w]
    rfl
   refine pure_ (i := 3) (N := some 10) (v := ?_) (a' := ?_) zahsq4 rfl rfl (any_of HT_.out (by kernel_rfl)) (fun _ _ _ h => h) (Or.inl ⟨by rfl, ?_⟩) ?_ ?_
   rotate_left
   ·intro w'
    go_simp
    with_reducible rfl
   rotate_left
   ·simp only [Act.put, zahaa, zahab, zahac, i64_w, i32_w]
    rfl
   refine pure_ (i := 4) (N := some 11) (v := undef) (a' := ?_) zahsq5 rfl rfl (any_of HT_.out (by kernel_rfl)) (fun _ _ _ h => h) (Or.inr ⟨by rfl, rfl⟩) ?_ ?_
   rotate_left
   ·simp only [Act.put, zahaa, zahab, zahac, i64_w, i32_w]
    rfl
   refine pure_ (i := 5) (N := some 12) (v := undef) (a' := ?_) zahsq6 rfl rfl (any_of HT_.out (by kernel_rfl)) (fun _ _ _ h => h) (Or.inr ⟨by rfl, rfl⟩) ?_ ?_
   rotate_left
   ·simp only [Act.put, zahaa, zahab, zahac, i64_w, i32_w]
    rfl
   refine pure_ (i := 6) (N := some 13) (v := undef) (a' := ?_) zahsq7 rfl rfl (any_of HT_.out (by kernel_rfl)) (fun _ _ _ h => h) (Or.inr ⟨by rfl, rfl⟩) ?_ ?_
   rotate_left
   ·simp only [Act.put, zahaa, zahab, zahac, i64_w, i32_w]
    rfl
   refine pure_ (i := 7) (N := some 14) (v := ?_) (a' := ?_) zahsq8 rfl rfl (any_of HT_.out (by kernel_rfl)) (fun _ _ _ h => h) (Or.inl ⟨by rfl, ?_⟩) ?_ ?_
   rotate_left
   ·intro w'
    go_simp
    with_reducible rfl
   rotate_left
   ·simp only [Act.put, zahaa, zahab, zahac, i64_w, i32_w]
    rfl
   refine pure_ (i := 8) (N := some 15) (v := ?_) (a' := ?_) zahsq9 rfl rfl (any_of HT_.out (by kernel_rfl)) (fun _ _ _ h => h) (Or.inl ⟨by rfl, ?_⟩) ?_ ?_
   rotate_left
   ·intro w'
    go_simp
    with_reducible rfl
   rotate_left
   ·simp only [Act.put, zahaa, zahab, zahac, i64_w, i32_w]
    rfl
   refine pure_ (i := 9) (N := some 16) (v := undef) (a' := ?_) zahsq10 rfl rfl (any_of HT_.out (by kernel_rfl)) (fun _ _ _ h => h) (Or.inr ⟨by rfl, rfl⟩) ?_ ?_
   rotate_left
   ·simp only [Act.put, zahaa, zahab, zahac, i64_w, i32_w]
    rfl
   refine pure_ (i := 10) (N := some 17) (v := undef) (a' := ?_) zahsq11 rfl rfl (any_of HT_.out (by kernel_rfl)) (fun _ _ _ h => h) (Or.inr ⟨by rfl, rfl⟩) ?_ ?_
   rotate_left
   ·simp only [Act.put, zahaa, zahab, zahac, i64_w, i32_w]
    rfl
   refine pure_ (i := 11) (N := some 18) (v := undef) (a' := ?_) zahsq12 rfl rfl (any_of HT_.out (by kernel_rfl)) (fun _ _ _ h => h) (Or.inr ⟨by rfl, rfl⟩) ?_ ?_
   rotate_left
   ·simp only [Act.put, zahaa, zahab, zahac, i64_w, i32_w]
    rfl
   refine pure_ (i := 12) (N := some 19) (v := undef) (a' := ?_) zahsq13 rfl rfl (any_of HT_.out (by kernel_rfl)) (fun _ _ _ h => h) (Or.inr ⟨by rfl, rfl⟩) ?_ ?_
   rotate_left
   ·simp only [Act.put, zahaa, zahab, zahac, i64_w, i32_w]
    rfl
   refine pure_ (i := 13) (N := some 20) (v := undef) (a' := ?_) zahsq14 rfl rfl (any_of HT_.out (by kernel_rfl)) (fun _ _ _ h => h) (Or.inr ⟨by rfl, rfl⟩) ?_ ?_
   rotate_left
   ·simp only [Act.put, zahaa, zahab, zahac, i64_w, i32_w]
    rfl
   refine pure_ (i := 14) (N := some 21) (v := undef) (a' := ?_) zahsq24 rfl rfl (any_of HT_.out (by kernel_rfl)) (fun _ _ _ h => h) (Or.inr ⟨by rfl, rfl⟩) ?_ ?_
   rotate_left
   ·simp only [Act.put, zahaa, zahab, zahac, i64_w, i32_w]
    rfl
   refine pure_ (i := 15) (N := some 22) (v := undef) (a' := ?_) zahsq25 rfl rfl (any_of HT_.out (by kernel_rfl)) (fun _ _ _ h => h) (Or.inr ⟨by rfl, rfl⟩) ?_ ?_
   rotate_left
   ·simp only [Act.put, zahaa, zahab, zahac, i64_w, i32_w]
    rfl
   refine pure_ (i := 16) (N := some 23) (v := undef) (a' := ?_) zahsq26 rfl rfl (any_of HT_.out (by kernel_rfl)) (fun _ _ _ h => h) (Or.inr ⟨by rfl, rfl⟩) ?_ ?_
   rotate_left
   ·simp only [Act.put, zahaa, zahab, zahac, i64_w, i32_w]
    rfl
   refine pure_ (i := 17) (N := some 24) (v := undef) (a' := ?_) zahsq18 rfl rfl (any_of HT_.out (by kernel_rfl)) (fun _ _ _ h => h) (Or.inr ⟨by rfl, rfl⟩) ?_ ?_
   rotate_left
   ·simp only [Act.put, zahaa, zahab, zahac, i64_w, i32_w]
    rfl
   refine pure_ (i := 18) (N := some 25) (v := undef) (a' := ?_) zahsq19 rfl rfl (any_of HT_.out (by kernel_rfl)) (fun _ _ _ h => h) (Or.inr ⟨by rfl, rfl⟩) ?_ ?_
   rotate_left
   ·simp only [Act.put, zahaa, zahab, zahac, i64_w, i32_w]
    rfl
   refine pure_ (i := 19) (N := some 26) (v := undef) (a' := ?_) zahsq20 rfl rfl (any_of HT_.out (by kernel_rfl)) (fun _ _ _ h => h) (Or.inr ⟨by rfl, rfl⟩) ?_ ?_
   rotate_left
   ·simp only [Act.put, zahaa, zahab, zahac, i64_w, i32_w]
    rfl
   refine pure_ (i := 20) (N := some 27) (v := undef) (a' := ?_) zahsq21 rfl rfl (any_of HT_.out (by kernel_rfl)) (fun _ _ _ h => h) (Or.inr ⟨by rfl, rfl⟩) ?_ ?_
   rotate_left
   ·simp only [Act.put, zahaa, zahab, zahac, i64_w, i32_w]
    rfl
   refine pure_ (i := 21) (N := some 28) (v := ?_) (a' := ?_) zahsq22 rfl rfl (any_of HT_.out (by kernel_rfl)) (fun _ _ _ h => h) (Or.inl ⟨by rfl, ?_⟩) ?_ ?_
   rotate_left
   ·intro w'
    go_simp
    with_reducible rfl
   rotate_left
   ·simp only [Act.put, zahaa, zahab, zahac, i64_w, i32_w]
    rfl
   refine pure_ (i := 22) (N := some 6) (v := ?_) (a' := ?_) zahsq23 rfl rfl (any_of HT_.out (by kernel_rfl)) (fun _ _ _ h => h) (Or.inl ⟨by rfl, ?_⟩) ?_ ?_
   rotate_left
   ·intro w'
    go_simp
    with_reducible rfl
   rotate_left
   ·simp only [Act.put, zahaa, zahab, zahac, i64_w, i32_w]
    rfl
   refine done_ (done_of HT_.out (by kernel_rfl)) ?_
   try go_wp2
   go_meet
   case rel => exact ⟨_, (true), (by first | rfl | (simp; done) | (simp [*]; done)), H', ⟨by first | omega | exact Nat.le_refl _⟩, ⟨zbk zahaq⟩, ⟨zh1 HB zahas⟩⟩
 case rest =>
  clear HC3
  try clear c1
  try clear p2
  try clear c3
  try clear c6
  try clear c8
  try clear c8b0
  try clear c8b1
  try clear c9
  try clear c9b0
  try clear c9b1
  try clear c10
  try clear c13
  obtain ⟨kq, zahat, rfl, HA, HJ2, zahaq, HB⟩ := hcut
  cases kq with
  | zero => exact absurd HA.out (by simp [chain_Put.j0])
  | succ kj2 =>
   have H := HA.out
   clear HA
   simp only [chain_Put.j0] at H
   by_cases c22 : zahat = true
   ·subst c22
    have H1 : (some (([] : List (S24)), 1)) = some (r1, r2) := by rw [if_pos rfl] at H; exact H
    clear H
    have H := H1
    clear H1
    simp only [Option.some.injEq, Prod.mk.injEq] at H
    obtain ⟨rfl, rfl⟩ := H
    go_wp2
    go_ret2
    exact ⟨_, by first | rfl | (simp [errW_none, errW_some] <;> rfl) | (simp [*, errW_none, errW_some] <;> rfl), by first | exact Kd.S_nil _ _ _ _ _ | exact Kd.N_nil _ _ _ _ _ | exact Kd.V_nil _ _ _ _ _ | exact Kd.Q_nil _ _ _ _ _ | exact Kd.R_nil _ _ _ _ _, zh1 HB zahas⟩
   ·replace c22 := Bool.eq_false_iff.mpr c22
    subst c22
    have H1 : (if (l0.length : Int) = 32 then (some (([] : List (S24)), 131)) else ((chain_own.f a1_0 a1_1 a1_2 a1_3 l1_4).bind fun bt147 => ((some (([(⟨bt147.1, bt147.2.1, bt147.2.2.1, bt147.2.2.2.1, bt147.2.2.2.2⟩ : S24)] : List (S24)) : List (S24))).bind fun y154 => ((chain_copied.f kj2 l0).bind fun t157 => (if y154.length + t157.length < 2199023255552 then (some ((y154 ++ t157), 0)) else (none)))))) = some (r1, r2) := by rw [if_neg (show ¬ (false = true) by decide)] at H; exact H
    clear H
    have H := H1
    clear H1
    by_cases c23 : (l0.length : Int) = 32
    ·rw [if_pos c23] at H
     have c23b0 : ((l0.length : Int) == 32) = true := beq_iff_eq.mpr c23
     have c23b1 : ((l0.length : Int) != 32) = false := bne_eq_false_iff_eq.mpr c23
     clear c23
     simp only [Option.some.injEq, Prod.mk.injEq] at H
     obtain ⟨rfl, rfl⟩ := H
     go_wp2
     go_ret2
     exact ⟨_, by first | rfl | (simp [errW_none, errW_some] <;> rfl) | (simp [*, errW_none, errW_some] <;> rfl), by first | exact Kd.S_nil _ _ _ _ _ | exact Kd.N_nil _ _ _ _ _ | exact Kd.V_nil _ _ _ _ _ | exact Kd.Q_nil _ _ _ _ _ | exact Kd.R_nil _ _ _ _ _, zh1 HB zahas⟩
    ·rw [if_neg c23] at H
     have c23b0 : ((l0.length : Int) == 32) = false := beq_eq_false_iff_ne.mpr c23
     have c23b1 : ((l0.length : Int) != 32) = true := bne_iff_ne.mpr c23
     replace H := Option.bind_eq_some_iff.mp H
     obtain ⟨⟨t147, t148, t149, t150, t151⟩, A240, H⟩ := H
     replace H : ((some (([(⟨t147, t148, t149, t150, t151⟩ : S24)] : List (S24)) : List (S24))).bind fun y154 => ((chain_copied.f kj2 l0).bind fun t157 => (if y154.length + t157.length < 2199023255552 then (some ((y154 ++ t157), 0)) else (none)))) = some (r1, r2) := H
     have A24 := zahap A240
     clear A240
     obtain ⟨y154, hy154⟩ : ∃ y_ : List (S24), y_ = (([(⟨t147, t148, t149, t150, t151⟩ : S24)] : List (S24))) := ⟨_, rfl⟩
     replace H : ((chain_copied.f kj2 l0).bind fun t157 => (if y154.length + t157.length < 2199023255552 then (some ((y154 ++ t157), 0)) else (none))) = some (r1, r2) := by first | (rw [hy154]; with_reducible exact H) | (have H2_ := (Option.bind_some _ _).symm.trans H; rw [hy154]; with_reducible exact H2_) | (have H2_ := (Option.bind_some _ _).symm.trans H; with_reducible exact H2_) | with_reducible exact H | (rw [hy154]; exact H) | exact H
     have Ny154 := zahap hy154
     clear hy154
     replace H := Option.bind_eq_some_iff.mp H
     obtain ⟨t157, A250, H⟩ := H
     replace H : (if y154.length + t157.length < 2199023255552 then (some ((y154 ++ t157), 0)) else (none)) = some (r1, r2) := H
     have A25 := zahap A250
     clear A250
     by_cases c26 : y154.length + t157.length < 2199023255552
     ·rw [if_pos c26] at H
      have LMc26 := zahap c26
      clear c26
      obtain ⟨y160, hy160⟩ : ∃ y_ : List (S24), y_ = (y154 ++ t157) := ⟨_, rfl⟩
      replace H : (some (y160, 0)) = some (r1, r2) := by first | (rw [hy160]; with_reducible exact H) | (have H2_ := (Option.bind_some _ _).symm.trans H; rw [hy160]; with_reducible exact H2_) | (have H2_ := (Option.bind_some _ _).symm.trans H; with_reducible exact H2_) | with_reducible exact H | (rw [hy160]; exact H) | exact H
      have Ny160 := zahap hy160
      clear hy160
      simp only [Option.some.injEq, Prod.mk.injEq] at H
      obtain ⟨rfl, rfl⟩ := H
      have zahaz : wc.cell? ⟨zahar, 0, none⟩ = some (.int .i64 a1_0) := (zahal zahaq.out 0).trans rfl
      have zahba : wc.cell? ⟨zahar, 1, none⟩ = some (.bool a1_1) := (zahal zahaq.out 1).trans rfl
      have zahbb : wc.cell? ⟨zahar, 2, none⟩ = some (.int .i64 a1_2) := (zahal zahaq.out 2).trans rfl
      have zahbc : wc.cell? ⟨zahar, 3, none⟩ = some (.string a1_3) := (zahal zahaq.out 3).trans rfl
      have zahbd : wc.cell? ⟨zahar, 4, none⟩ = some (.slice A1_4 l1_4.length c1_4) := (zahal zahaq.out 4).trans rfl
      have zahbe := blk_frozen zahaq.out 0
      have zahbf := blk_frozen zahaq.out 1
      have zahbg := blk_frozen zahaq.out 2
      have zahbh := blk_frozen zahaq.out 3
      have zahbi := blk_frozen zahaq.out 4
      go_wp2_with (first | ((with_reducible refine gate_callee (f := 38) rfl ?_); refine goesL_ (some 34) rfl rfl Try.func38 (by kernel_rfl) rfl #[.agg #[.int .i64 a1_0, .bool a1_1, .int .i64 a1_2, .string a1_3, .slice A1_4 l1_4.length c1_4]] rfl (by (try simp only [zaham, zahan, zahao]); first | done | rfl) ?_; (with_reducible refine (chain_own.calls a1_0 a1_1 a1_2 a1_3 _ _ l1_4 t147 t148 t149 t150 t151 _ ?side1 ?side2 A24.out).mono ?_); (case side1 => repeat (first | exact (Kd.C_below HR1_4.out HB.out) | (with_reducible refine Kd.C_alloc ?_ _) | (with_reducible refine Kd.C_drewN ?_ _) | (with_reducible refine Kd.C_drew ?_))); (case side2 => exact HC1_4.out); rintro e w28 ⟨v152, rfl, ho0, hb⟩; refine ⟨_, rfl, ?_⟩; have n0_ := zahap (Kd.R_lower (Kd.R_newM (M := fun k_ => (w.heap.size ≤ k_)) ho0 (below_size (zh1 HB zahas)) (fun k_ h_ => h_)) (below_size (zh1 HB zahas))); have n1_ := zbb zahaq hb; have n2_ := zahap (below_step (zh1 HB zahas) hb); clear zahaq; clear HB; have HO153 := n0_; have zahaq := n1_; have HB := n2_; clear n0_ n1_ n2_; (try clear hb); (try clear hk); (try clear hi); (try clear ho0); obtain ⟨Ao29, co29, eo29⟩ := Kd.R_slice HO153.out; subst eo29) | ((with_reducible refine gate_dst (N := 35) rfl ?_); (try (refine gate_guard (by rfl) ?_; dsimp only)); refine Kd.N_lit k24 _ 24 ?hg (N' := 35) ?hd (xs := ([(⟨t147, t148, t149, t150, t151⟩ : S24)] : List (S24))) (inner := [.int .i64 t147, .bool t148, .int .i64 t149, .string t150, .slice Ao29 t151.length co29]) (ok := (fun k_ => (w.heap.size ≤ k_) ∧ k_ ≠ zahar)) (okp := (fun k_ => (w.heap.size ≤ k_) ∧ k_ ≠ zahar)) ?hr ?hp (fun _ hk => hk) ((show ∀ k_, w28.heap.size ≤ k_ → (fun k_ => (w.heap.size ≤ k_) ∧ k_ ≠ zahar) k_ from fun k_ hk => ⟨(Nat.le_trans (below_size (zh1 HB zahas)) hk), Kd.freshB (g := zahar) (o := .cells #[.int .i64 a1_0, .bool a1_1, .int .i64 a1_2, .string a1_3, .slice A1_4 l1_4.length c1_4] 24 (0, 0)) (zbk zahaq) k_ hk⟩) _ (Nat.le_refl _)) (Below.refl _ _) (Nat.le_refl _) (by simp) ?_; (case hd => rfl); (case hg => rfl); (case hr => first | (go_simp; done) | (go_simp; rfl)); (case hp => exact (Reps.c5 (show Kd.FK k24 _ _ (⟨t147, t148, t149, t150, t151⟩ : S24) [.int .i64 t147, .bool t148, .int .i64 t149, .string t150, .slice Ao29 t151.length co29] from (k24_mkF _ _ (⟨t147, t148, t149, t150, t151⟩ : S24) (Kd.R_reads' (Kd.R_mono (ok' := (fun k_ => (w.heap.size ≤ k_) ∧ k_ ≠ zahar)) (Kd.R_types (HO153.out) zahaq.out (by decide)) (fun k_ hk => ⟨hk.1.1, hk.2⟩))).2.1 (Kd.R_F (Kd.R_mono (ok' := (fun k_ => (w.heap.size ≤ k_) ∧ k_ ≠ zahar)) (Kd.R_types (HO153.out) zahaq.out (by decide)) (fun k_ hk => ⟨hk.1.1, hk.2⟩))))) (Reps.none _ _))); intro v155 w30 ho31 hb hg_ hnew_; clear hg_ hnew_; (first | rw [← Ny154.out] at ho31 | (simp only [Int.reduceToNat] at ho31; rw [← Ny154.out] at ho31)); have n0_ := zahap (Kd.N_lower ho31 (below_size (zh1 HB zahas))); have n1_ := zbb zahaq hb; have n2_ := zahap (below_step (zh1 HB zahas) hb); clear zahaq; clear HB; clear HO153; have HO156 := n0_; have zahaq := n1_; have HB := n2_; clear n0_ n1_ n2_; clear hb ho31) | ((with_reducible refine gate_callee (f := 39) rfl ?_); refine goesL_ (some 37) rfl rfl Try.func39 (by kernel_rfl) rfl #[.slice A0 l0.length c0] rfl (by (try simp only [zaham, zahan, zahao]); first | done | rfl) ?_; (with_reducible refine (chain_copied.calls kj2 _ _ l0 t157 _ ?side1 ?side2 A25.out).mono ?_); (case side1 => repeat (first | exact (Kd.C_below HR0.out HB.out) | (with_reducible refine Kd.C_alloc ?_ _) | (with_reducible refine Kd.C_drewN ?_ _) | (with_reducible refine Kd.C_drew ?_))); (case side2 => exact HC0.out); rintro e w32 ⟨v158, rfl, ho0, hb⟩; refine ⟨_, rfl, ?_⟩; have n0_ := zahap (Kd.N_elder' (znk HO156) (by first | exact Kd.N_base ho0 | exact Kd.N_base (Kd.S_N ho0)) hb); have n1_ := zahap (Kd.N_lower (Kd.N_mono (ok' := fun k_ => (w.heap.size ≤ k_) ∧ some k_ ≠ (v155 : Value).ownBlock ∧ k_ ≠ zahar) (Kd.S_N (Kd.S_bound ho0)) (fun k_ hk_ => ⟨(Nat.le_trans (below_size (zh1 HB zahas)) hk_.2.1), (Kd.fresh' (Kd.N_lt (znk HO156)) k_ hk_.2.1), (Kd.freshB (g := zahar) (o := .cells #[.int .i64 a1_0, .bool a1_1, .int .i64 a1_2, .string a1_3, .slice A1_4 l1_4.length c1_4] 24 (0, 0)) (zbk zahaq) k_ hk_.2.1)⟩)) (below_size (zh1 HB zahas))); have n2_ := zbb zahaq hb; have n3_ := zahap (below_step (zh1 HB zahas) hb); clear HO156; clear zahaq; clear HB; have HO156 := n0_; have HO159 := n1_; have zahaq := n2_; have HB := n3_; clear n0_ n1_ n2_ n3_; (try clear hb); (try clear hk); (try clear hi); (try clear ho0); obtain ⟨Ao34, co34, eo34⟩ := Kd.N_slice HO159.out; subst eo34) | ((with_reducible refine gate_builtin (b := .append) (xs := #[.tmp 35, .tmp 37]) rfl ?_); (try (refine gate_guard (by rfl) ?_; dsimp only)); at_builtin; refine Kd.N_append_rows k24 (w0 := w) w.heap.size rfl (.tmp 35) (.tmp 37) 39 24 (.agg #[(.int .i64 0), (.bool false), (.int .i64 0), (.string ⟨#[]⟩), (.slice none 0 0)]) 64 rfl Try.underlying39 info24 rfl (by decide) (by omega) v155 y154 t157 _ _ _ (fun k_ => (w.heap.size ≤ k_) ∧ k_ ≠ zahar) (fun k_ => ((fun k_ => (w.heap.size ≤ k_) ∧ k_ ≠ zahar)) k_ ∧ some k_ ≠ (v155 : Value).ownBlock) rfl rfl ?aO ?aR (fun _ hk => hk) ?aF ?aB ?aS ?aL ?_; (case aR => exact (by skip; exact Kd.N_F (Kd.N_mono (ok' := (fun k_ => ((fun k_ => (w.heap.size ≤ k_) ∧ k_ ≠ zahar)) k_ ∧ some k_ ≠ (v155 : Value).ownBlock)) (HO159.out) (fun k_ hk => ⟨⟨hk.1, hk.2.2⟩, hk.2.1⟩)))); (case aB => exact (zh1 HB zahas)); (case aF => exact (fun k_ hk => ⟨(Nat.le_trans (below_size (zh1 HB zahas)) hk), Kd.freshB (g := zahar) (o := .cells #[.int .i64 a1_0, .bool a1_1, .int .i64 a1_2, .string a1_3, .slice A1_4 l1_4.length c1_4] 24 (0, 0)) (zbk zahaq) k_ hk⟩)); (case aO => exact (by (with_reducible repeat (first | apply Kd.N_alloc | apply Kd.N_drewN | apply Kd.N_drew)); exact Kd.N_mono HO156.out (fun _ hk => ⟨hk.1.1, hk.1.2⟩))); (case aS => exact (below_size (zh1 HB zahas))); (case aL => have := LMc26.out; omega); intro v161 w33 ho hb hg hat; rw [← Ny160.out] at ho; have n0_ := zahap (blk_grown (g := zahar) (o := .cells #[.int .i64 a1_0, .bool a1_1, .int .i64 a1_2, .string a1_3, .slice A1_4 l1_4.length c1_4] 24 (0, 0)) (zbk zahaq) hg (Kd.N_away HO156.out (fun _ hk => hk.1.2))); have n1_ := zahap (Kd.N_afterv (ok := (fun k_ => (w.heap.size ≤ k_) ∧ k_ ≠ zahar)) (by (with_reducible repeat (first | apply Kd.N_alloc | apply Kd.N_drewN | apply Kd.N_drew)); exact Kd.N_mono HO159.out (fun _ hk => ⟨⟨hk.1, hk.2.2⟩, hk.2.1⟩)) hg hat); have n2_ := zahap (hb); have n3_ := zahap (ho); clear zahaq; clear HO159; clear HB; clear HO156; have zahaq := n0_; have HO159 := n1_; have HB := n2_; have HO162 := n3_; clear n0_ n1_ n2_ n3_; clear ho hb hg hat))
      go_ret2
      exact ⟨_, by first | rfl | (simp [errW_none, errW_some] <;> rfl) | (simp [*, errW_none, errW_some] <;> rfl), by (with_reducible repeat (first | apply Kd.N_alloc | apply Kd.N_drewN | apply Kd.N_drew)); exact Kd.N_mono HO162.out (fun _ hk => hk.1), zh1 HB zahas⟩
     ·rw [if_neg c26] at H
      exact absurd H (by simp)

end Go.Proofs.Ytmpnaaegahjfkaa.Q