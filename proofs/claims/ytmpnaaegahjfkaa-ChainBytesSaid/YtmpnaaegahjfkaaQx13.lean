

/- Written by a program of this session (wip/patch_print.py over the kit's print): functions of the given program as plain Lean functions, and that each call does what its function says, under no further conditions. -/
import Derived.Test.YtmpnaaegahjfkaaQx0
import Derived.Test.YtmpnaaegahjfkaaQx1
namespace Go.Proofs.Ytmpnaaegahjfkaa.Q
open Go.RowKit Go.Proofs.YtmpnaaegahjfkaaW.PrintWords Go.Proofs.YtmpnaaegahjfkaaW.PrintLast Go.Proofs.YtmpnaaegahjfkaaW.PrintMore
attribute [local go_sem] max2_int min2_int max_two min_two max_three min_three max_four min_four   -- for this text's walks alone
set_option linter.unusedVariables false
set_option linter.unusedSimpArgs false
attribute [local go_sem] xor_ones_u8 xor_ones_u16 xor_ones_u32 xor_ones_u64 cell_twice frozen_twice
attribute [local go_sem high] eqA74
abbrev zanaa := @World.block_lt_of_cell?
abbrev zanab := @blk_drewN
abbrev zanac := @blk_alloc
abbrev zanad := @blk_drew
abbrev zanae := @below_set
abbrev zanaf := @pw_below_drewN
abbrev zanag := @below_drew1
abbrev zanah := @below_alloc
abbrev zanai := @blk_cell
abbrev zanaj := @blk_frozen
abbrev zanak := @Aside0.mk
/-! ### stowageref13_Same: function 23 -/
mutual
def stowageref13_Same.j0 : Nat → Bool → Int → Bool → Int → ByteArray → List (S74) → Int → Bool → Int → ByteArray → List (S74) → Option (Bool)
 | 0, _, _, _, _, _, _, _, _, _, _, _ => none
 | k + 1, x40, zanaw, zanax, zanay, zanaz, zanau, zanba, zanbb, zanbc, zanbd, zanav => if x40 = true then (some false) else (stowageref13_Same.l0 k 0 zanaw zanax zanay zanaz zanau zanba zanbb zanbc zanbd zanav)
def stowageref13_Same.l0 : Nat → Int → Int → Bool → Int → ByteArray → List (S74) → Int → Bool → Int → ByteArray → List (S74) → Option (Bool)
 | 0, _, _, _, _, _, _, _, _, _, _, _ => none
 | k + 1, x5, zanaw, zanax, zanay, zanaz, zanau, zanba, zanbb, zanbc, zanbd, zanav => if x5 < (zanau.length : Int) then (if 0 ≤ x5 then (if x5 < (zanav.length : Int) then (if (!((((rd_T74 zanau x5).f0).toList) == (((rd_T74 zanav x5).f0).toList)) || (!(((rd_T74 zanau x5).f1) == ((rd_T74 zanav x5).f1)))) = true then (some false) else (stowageref13_Same.l0 k (wrap64 (x5 + 1)) zanaw zanax zanay zanaz zanau zanba zanbb zanbc zanbd zanav)) else (none)) else (none)) else (some true)
end
def stowageref13_Same.f (k : Nat) (a0_0 : Int) (a0_1 : Bool) (a0_2 : Int) (a0_3 : ByteArray) (l0_4 : List (S74)) (a1_0 : Int) (a1_1 : Bool) (a1_2 : Int) (a1_3 : ByteArray) (l1_4 : List (S74)) : Option (Bool) := if a0_0 = a1_0 then (if (a0_1 != a1_1) = true then (stowageref13_Same.j0 k true a0_0 a0_1 a0_2 a0_3 l0_4 a1_0 a1_1 a1_2 a1_3 l1_4) else (if a0_2 = a1_2 then (if a0_3.toList = a1_3.toList then (stowageref13_Same.j0 k ((l0_4.length : Int) != (l1_4.length : Int)) a0_0 a0_1 a0_2 a0_3 l0_4 a1_0 a1_1 a1_2 a1_3 l1_4) else (stowageref13_Same.j0 k true a0_0 a0_1 a0_2 a0_3 l0_4 a1_0 a1_1 a1_2 a1_3 l1_4)) else (stowageref13_Same.j0 k true a0_0 a0_1 a0_2 a0_3 l0_4 a1_0 a1_1 a1_2 a1_3 l1_4))) else (stowageref13_Same.j0 k true a0_0 a0_1 a0_2 a0_3 l0_4 a1_0 a1_1 a1_2 a1_3 l1_4)
set_option maxHeartbeats 8000000 in
set_option maxRecDepth 100000 in
theorem stowageref13_Same.calls (k : Nat) (a0_0 : Int) (a0_1 : Bool) (a0_2 : Int) (a0_3 : ByteArray) (A0_4 : Option Addr) (c0_4 : Nat) (l0_4 : List (S74)) (a1_0 : Int) (a1_1 : Bool) (a1_2 : Int) (a1_3 : ByteArray) (A1_4 : Option Addr) (c1_4 : Nat) (l1_4 : List (S74)) (r : Bool) (w : World) (hr0_4 : Kd.C k74 w A0_4 l0_4.length l0_4) (hc0_4 : l0_4.length ≤ c0_4) (hr1_4 : Kd.C k74 w A1_4 l1_4.length l1_4) (hc1_4 : l1_4.length ≤ c1_4) (h : stowageref13_Same.f k a0_0 a0_1 a0_2 a0_3 l0_4 a1_0 a1_1 a1_2 a1_3 l1_4 = some r) :
  Calls Try.prog 23 #[.agg #[.int .i64 a0_0, .bool a0_1, .int .i64 a0_2, .string a0_3, .slice A0_4 l0_4.length c0_4], .agg #[.int .i64 a1_0, .bool a1_1, .int .i64 a1_2, .string a1_3, .slice A1_4 l1_4.length c1_4]] w fun e w' => e = .returned (.bool r) ∧ Below w.heap.size w w' := by
 have hu36 := Try.underlying36
 have hu74 := Try.underlying74
 have HR0_4 := zanak hr0_4
 have HC0_4 := zanak hc0_4
 clear hr0_4 hc0_4
 have HR1_4 := zanak hr1_4
 have HC1_4 := zanak hc1_4
 clear hr1_4 hc1_4
 have HB := zanak (Below.refl w.heap.size w)
 have H : (if a0_0 = a1_0 then (if (a0_1 != a1_1) = true then (stowageref13_Same.j0 k true a0_0 a0_1 a0_2 a0_3 l0_4 a1_0 a1_1 a1_2 a1_3 l1_4) else (if a0_2 = a1_2 then (if a0_3.toList = a1_3.toList then (stowageref13_Same.j0 k ((l0_4.length : Int) != (l1_4.length : Int)) a0_0 a0_1 a0_2 a0_3 l0_4 a1_0 a1_1 a1_2 a1_3 l1_4) else (stowageref13_Same.j0 k true a0_0 a0_1 a0_2 a0_3 l0_4 a1_0 a1_1 a1_2 a1_3 l1_4)) else (stowageref13_Same.j0 k true a0_0 a0_1 a0_2 a0_3 l0_4 a1_0 a1_1 a1_2 a1_3 l1_4))) else (stowageref13_Same.j0 k true a0_0 a0_1 a0_2 a0_3 l0_4 a1_0 a1_1 a1_2 a1_3 l1_4)) = some r := h
 clear h
 have HC3 := zanak H
 clear H
 go_enter Try.func23, Try.ntmps23
 go_upto_region 1 with (first | ((with_reducible refine gate_dst (N := 2) rfl ?_); (try (refine gate_guard (by rfl) ?_; dsimp only)); refine box_event ?hg (N := 2) ?hd (cs := #[.int .i64 a0_0, .bool a0_1, .int .i64 a0_2, .string a0_3, .slice A0_4 l0_4.length c0_4]) (t := 36) ?hr ?_; (case hd => rfl); (case hg => rfl); (case hr => first | (go_simp; done) | (go_simp; rfl)); intro zanan hg w4 hbox hb; have n0_ := zanak (below_step (zh0 HB) hb); have n1_ := zanak (hbox); have n2_ := zns hg (zh0 HB); have n3_ := zns hg (zh0 HB); clear HB; have HB := n0_; have zanal := n1_; have zanfb := n2_; have zanaq := n3_; clear n0_ n1_ n2_ n3_; clear hb hbox hg) | ((with_reducible refine gate_dst (N := 3) rfl ?_); (try (refine gate_guard (by rfl) ?_; dsimp only)); refine box_event ?hg (N := 3) ?hd (cs := #[.int .i64 a1_0, .bool a1_1, .int .i64 a1_2, .string a1_3, .slice A1_4 l1_4.length c1_4]) (t := 36) ?hr ?_; (case hd => rfl); (case hg => rfl); (case hr => first | (go_simp; done) | (go_simp; rfl)); intro zanao hg w5 hbox hb; have n0_ := zbb zanal hb; have n1_ := zanak (below_step (zh1 HB zanaq) hb); have n2_ := zanak (hbox); have n3_ := zns hg (zh1 HB zanaq); have n4_ := zns hg (zh1 HB zanaq); have n5_ := zanak ((by rw [hg]; exact Nat.ne_of_lt (blk_lt (g := zanan) (o := .cells #[.int .i64 a0_0, .bool a0_1, .int .i64 a0_2, .string a0_3, .slice A0_4 l0_4.length c0_4] 36 (0, 0)) (zbk zanal)) : zanan ≠ zanao)); have n6_ := zanak ((by rw [hg]; exact Nat.ne_of_gt (blk_lt (g := zanan) (o := .cells #[.int .i64 a0_0, .bool a0_1, .int .i64 a0_2, .string a0_3, .slice A0_4 l0_4.length c0_4] 36 (0, 0)) (zbk zanal)) : zanao ≠ zanan)); clear zanal; clear HB; have zanal := n0_; have HB := n1_; have zanam := n2_; have zanfc := n3_; have zanat := n4_; have zanar := n5_; have zanas := n6_; clear n0_ n1_ n2_ n3_ n4_ n5_ n6_; clear hb hbox hg))
 repeat (go_quiet (first | ((with_reducible refine gate_dst (N := 2) rfl ?_); (try (refine gate_guard (by rfl) ?_; dsimp only)); refine box_event ?hg (N := 2) ?hd (cs := #[.int .i64 a0_0, .bool a0_1, .int .i64 a0_2, .string a0_3, .slice A0_4 l0_4.length c0_4]) (t := 36) ?hr ?_; (case hd => rfl); (case hg => rfl); (case hr => first | (go_simp; done) | (go_simp; rfl)); intro zanan hg w4 hbox hb; have n0_ := zanak (below_step (zh0 HB) hb); have n1_ := zanak (hbox); have n2_ := zns hg (zh0 HB); have n3_ := zns hg (zh0 HB); clear HB; have HB := n0_; have zanal := n1_; have zanfb := n2_; have zanaq := n3_; clear n0_ n1_ n2_ n3_; clear hb hbox hg) | ((with_reducible refine gate_dst (N := 3) rfl ?_); (try (refine gate_guard (by rfl) ?_; dsimp only)); refine box_event ?hg (N := 3) ?hd (cs := #[.int .i64 a1_0, .bool a1_1, .int .i64 a1_2, .string a1_3, .slice A1_4 l1_4.length c1_4]) (t := 36) ?hr ?_; (case hd => rfl); (case hg => rfl); (case hr => first | (go_simp; done) | (go_simp; rfl)); intro zanao hg w5 hbox hb; have n0_ := zbb zanal hb; have n1_ := zanak (below_step (zh1 HB zanaq) hb); have n2_ := zanak (hbox); have n3_ := zns hg (zh1 HB zanaq); have n4_ := zns hg (zh1 HB zanaq); have n5_ := zanak ((by rw [hg]; exact Nat.ne_of_lt (blk_lt (g := zanan) (o := .cells #[.int .i64 a0_0, .bool a0_1, .int .i64 a0_2, .string a0_3, .slice A0_4 l0_4.length c0_4] 36 (0, 0)) (zbk zanal)) : zanan ≠ zanao)); have n6_ := zanak ((by rw [hg]; exact Nat.ne_of_gt (blk_lt (g := zanan) (o := .cells #[.int .i64 a0_0, .bool a0_1, .int .i64 a0_2, .string a0_3, .slice A0_4 l0_4.length c0_4] 36 (0, 0)) (zbk zanal)) : zanao ≠ zanan)); clear zanal; clear HB; have zanal := n0_; have HB := n1_; have zanam := n2_; have zanfc := n3_; have zanat := n4_; have zanar := n5_; have zanas := n6_; clear n0_ n1_ n2_ n3_ n4_ n5_ n6_; clear hb hbox hg)); go_upto_region 1 with (first | ((with_reducible refine gate_dst (N := 2) rfl ?_); (try (refine gate_guard (by rfl) ?_; dsimp only)); refine box_event ?hg (N := 2) ?hd (cs := #[.int .i64 a0_0, .bool a0_1, .int .i64 a0_2, .string a0_3, .slice A0_4 l0_4.length c0_4]) (t := 36) ?hr ?_; (case hd => rfl); (case hg => rfl); (case hr => first | (go_simp; done) | (go_simp; rfl)); intro zanan hg w4 hbox hb; have n0_ := zanak (below_step (zh0 HB) hb); have n1_ := zanak (hbox); have n2_ := zns hg (zh0 HB); have n3_ := zns hg (zh0 HB); clear HB; have HB := n0_; have zanal := n1_; have zanfb := n2_; have zanaq := n3_; clear n0_ n1_ n2_ n3_; clear hb hbox hg) | ((with_reducible refine gate_dst (N := 3) rfl ?_); (try (refine gate_guard (by rfl) ?_; dsimp only)); refine box_event ?hg (N := 3) ?hd (cs := #[.int .i64 a1_0, .bool a1_1, .int .i64 a1_2, .string a1_3, .slice A1_4 l1_4.length c1_4]) (t := 36) ?hr ?_; (case hd => rfl); (case hg => rfl); (case hr => first | (go_simp; done) | (go_simp; rfl)); intro zanao hg w5 hbox hb; have n0_ := zbb zanal hb; have n1_ := zanak (below_step (zh1 HB zanaq) hb); have n2_ := zanak (hbox); have n3_ := zns hg (zh1 HB zanaq); have n4_ := zns hg (zh1 HB zanaq); have n5_ := zanak ((by rw [hg]; exact Nat.ne_of_lt (blk_lt (g := zanan) (o := .cells #[.int .i64 a0_0, .bool a0_1, .int .i64 a0_2, .string a0_3, .slice A0_4 l0_4.length c0_4] 36 (0, 0)) (zbk zanal)) : zanan ≠ zanao)); have n6_ := zanak ((by rw [hg]; exact Nat.ne_of_gt (blk_lt (g := zanan) (o := .cells #[.int .i64 a0_0, .bool a0_1, .int .i64 a0_2, .string a0_3, .slice A0_4 l0_4.length c0_4] 36 (0, 0)) (zbk zanal)) : zanao ≠ zanan)); clear zanal; clear HB; have zanal := n0_; have HB := n1_; have zanam := n2_; have zanfc := n3_; have zanat := n4_; have zanar := n5_; have zanas := n6_; clear n0_ n1_ n2_ n3_ n4_ n5_ n6_; clear hb hbox hg)))
 (try simp only [Act.put, List.setIfInBounds_toArray, List.set_cons_zero, List.set_cons_succ])
 go_cut [40] (fun v40 wc => ∃ (kq : Nat) (zanbe : Bool), v40 = .bool zanbe ∧ Aside0 (stowageref13_Same.j0 kq zanbe a0_0 a0_1 a0_2 a0_3 l0_4 a1_0 a1_1 a1_2 a1_3 l1_4 = some r) ∧ Aside0 (kq ≤ k) ∧ Aside0 (wc.heap[zanan]? = some (.cells #[.int .i64 a0_0, .bool a0_1, .int .i64 a0_2, .string a0_3, (.slice A0_4 l0_4.length c0_4)] 36 (0, 0))) ∧ Aside0 (wc.heap[zanao]? = some (.cells #[.int .i64 a1_0, .bool a1_1, .int .i64 a1_2, .string a1_3, (.slice A1_4 l1_4.length c1_4)] 36 (0, 0))) ∧ Aside0 (Below w.heap.size w wc))
 case first =>
  have H := HC3.out
  clear HC3
  by_cases c6 : a0_0 = a1_0
  ·rw [if_pos c6] at H
   have c6b0 : (a0_0 == a1_0) = true := beq_iff_eq.mpr c6
   have c6b1 : (a0_0 != a1_0) = false := bne_eq_false_iff_eq.mpr c6
   clear c6
   (first | rw [c6b0] | (simp only [i64_w, i32_w]; rw [c6b0]) | skip)
   by_cases c7 : (a0_1 != a1_1) = true
   ·rw [if_pos c7] at H
    have c7b0 : (a0_1 != a1_1) = true := c7
    (try (have c7b1 : decide (a0_1 = a1_1) = false := by simpa using c7))
    (try (have c7b2 : (a0_1 == a1_1) = false := by simpa using c7))
    (try (have c7b3 : ¬ (a0_1 = a1_1) := by simpa using c7))
    clear c7
    have H' := zanak H
    clear H
    have hnb8 := zanar.out
    have hnc8 := zanas.out
    have zaner : w5.cell? ⟨zanan, 0, none⟩ = some (.int .i64 a0_0) := (zanai zanal.out 0).trans rfl
    have zanes : w5.cell? ⟨zanan, 1, none⟩ = some (.bool a0_1) := (zanai zanal.out 1).trans rfl
    have zanet : w5.cell? ⟨zanan, 2, none⟩ = some (.int .i64 a0_2) := (zanai zanal.out 2).trans rfl
    have zaneu : w5.cell? ⟨zanan, 3, none⟩ = some (.string a0_3) := (zanai zanal.out 3).trans rfl
    have zanev : w5.cell? ⟨zanan, 4, none⟩ = some (.slice A0_4 l0_4.length c0_4) := (zanai zanal.out 4).trans rfl
    have zanew := zanaj zanal.out 0
    have zanex := zanaj zanal.out 1
    have zaney := zanaj zanal.out 2
    have zanez := zanaj zanal.out 3
    have zanfa := zanaj zanal.out 4
    have zanbf : w5.cell? ⟨zanao, 0, none⟩ = some (.int .i64 a1_0) := (zanai zanam.out 0).trans rfl
    have zanbg : w5.cell? ⟨zanao, 1, none⟩ = some (.bool a1_1) := (zanai zanam.out 1).trans rfl
    have zanbh : w5.cell? ⟨zanao, 2, none⟩ = some (.int .i64 a1_2) := (zanai zanam.out 2).trans rfl
    have zanbi : w5.cell? ⟨zanao, 3, none⟩ = some (.string a1_3) := (zanai zanam.out 3).trans rfl
    have zanbj : w5.cell? ⟨zanao, 4, none⟩ = some (.slice A1_4 l1_4.length c1_4) := (zanai zanam.out 4).trans rfl
    have zanbk := zanaj zanam.out 0
    have zanbl := zanaj zanam.out 1
    have zanbm := zanaj zanam.out 2
    have zanbn := zanaj zanam.out 3
    have zanbo := zanaj zanam.out 4
    go_wp2
    repeat (go_quiet (fail); try go_wp2)
    go_meet
    case rel => exact ⟨_, (true), (by first | rfl | (simp; done) | (simp [*]; done)), H', ⟨by first | omega | exact Nat.le_refl _⟩, ⟨zbk zanal⟩, ⟨zbk zanam⟩, ⟨zh2 HB zanaq zanat⟩⟩
   ·rw [if_neg c7] at H
    have c7b0 : (a0_1 != a1_1) = false := by simpa using c7
    (try (have c7b1 : decide (a0_1 = a1_1) = true := by simpa using c7))
    (try (have c7b2 : (a0_1 == a1_1) = true := by simpa using c7))
    clear c7
    by_cases c11 : a0_2 = a1_2
    ·rw [if_pos c11] at H
     have c11b0 : (a0_2 == a1_2) = true := beq_iff_eq.mpr c11
     have c11b1 : (a0_2 != a1_2) = false := bne_eq_false_iff_eq.mpr c11
     clear c11
     by_cases c12 : a0_3.toList = a1_3.toList
     ·rw [if_pos c12] at H
      have c12b0 : (a0_3.toList == a1_3.toList) = true := beq_iff_eq.mpr c12
      have c12b1 : (a0_3.toList != a1_3.toList) = false := bne_eq_false_iff_eq.mpr c12
      clear c12
      have H' := zanak H
      clear H
      have hnb13 := zanar.out
      have hnc13 := zanas.out
      have zanbp : w5.cell? ⟨zanan, 0, none⟩ = some (.int .i64 a0_0) := (zanai zanal.out 0).trans rfl
      have zanbq : w5.cell? ⟨zanan, 1, none⟩ = some (.bool a0_1) := (zanai zanal.out 1).trans rfl
      have zanbr : w5.cell? ⟨zanan, 2, none⟩ = some (.int .i64 a0_2) := (zanai zanal.out 2).trans rfl
      have zanbs : w5.cell? ⟨zanan, 3, none⟩ = some (.string a0_3) := (zanai zanal.out 3).trans rfl
      have zanbt : w5.cell? ⟨zanan, 4, none⟩ = some (.slice A0_4 l0_4.length c0_4) := (zanai zanal.out 4).trans rfl
      have zanbu := zanaj zanal.out 0
      have zanbv := zanaj zanal.out 1
      have zanbw := zanaj zanal.out 2
      have zanbx := zanaj zanal.out 3
      have zanby := zanaj zanal.out 4
      have zanbz : w5.cell? ⟨zanao, 0, none⟩ = some (.int .i64 a1_0) := (zanai zanam.out 0).trans rfl
      have zanca : w5.cell? ⟨zanao, 1, none⟩ = some (.bool a1_1) := (zanai zanam.out 1).trans rfl
      have zancb : w5.cell? ⟨zanao, 2, none⟩ = some (.int .i64 a1_2) := (zanai zanam.out 2).trans rfl
      have zancc : w5.cell? ⟨zanao, 3, none⟩ = some (.string a1_3) := (zanai zanam.out 3).trans rfl
      have zancd : w5.cell? ⟨zanao, 4, none⟩ = some (.slice A1_4 l1_4.length c1_4) := (zanai zanam.out 4).trans rfl
      have zance := zanaj zanam.out 0
      have zancf := zanaj zanam.out 1
      have zancg := zanaj zanam.out 2
      have zanch := zanaj zanam.out 3
      have zanci := zanaj zanam.out 4
      go_wp2
      repeat (go_quiet (fail); try go_wp2)
      go_meet
      case rel => exact ⟨_, (((l0_4.length : Int) != (l1_4.length : Int))), (by first | rfl | (simp; done) | (simp [*]; done)), H', ⟨by first | omega | exact Nat.le_refl _⟩, ⟨zbk zanal⟩, ⟨zbk zanam⟩, ⟨zh2 HB zanaq zanat⟩⟩
     ·rw [if_neg c12] at H
      have c12b0 : (a0_3.toList == a1_3.toList) = false := beq_eq_false_iff_ne.mpr c12
      have c12b1 : (a0_3.toList != a1_3.toList) = true := bne_iff_ne.mpr c12
      have H' := zanak H
      clear H
      have hnb16 := zanar.out
      have hnc16 := zanas.out
      have zancj : w5.cell? ⟨zanan, 0, none⟩ = some (.int .i64 a0_0) := (zanai zanal.out 0).trans rfl
      have zanck : w5.cell? ⟨zanan, 1, none⟩ = some (.bool a0_1) := (zanai zanal.out 1).trans rfl
      have zancl : w5.cell? ⟨zanan, 2, none⟩ = some (.int .i64 a0_2) := (zanai zanal.out 2).trans rfl
      have zancm : w5.cell? ⟨zanan, 3, none⟩ = some (.string a0_3) := (zanai zanal.out 3).trans rfl
      have zancn : w5.cell? ⟨zanan, 4, none⟩ = some (.slice A0_4 l0_4.length c0_4) := (zanai zanal.out 4).trans rfl
      have zanco := zanaj zanal.out 0
      have zancp := zanaj zanal.out 1
      have zancq := zanaj zanal.out 2
      have zancr := zanaj zanal.out 3
      have zancs := zanaj zanal.out 4
      have zanct : w5.cell? ⟨zanao, 0, none⟩ = some (.int .i64 a1_0) := (zanai zanam.out 0).trans rfl
      have zancu : w5.cell? ⟨zanao, 1, none⟩ = some (.bool a1_1) := (zanai zanam.out 1).trans rfl
      have zancv : w5.cell? ⟨zanao, 2, none⟩ = some (.int .i64 a1_2) := (zanai zanam.out 2).trans rfl
      have zancw : w5.cell? ⟨zanao, 3, none⟩ = some (.string a1_3) := (zanai zanam.out 3).trans rfl
      have zancx : w5.cell? ⟨zanao, 4, none⟩ = some (.slice A1_4 l1_4.length c1_4) := (zanai zanam.out 4).trans rfl
      have zancy := zanaj zanam.out 0
      have zancz := zanaj zanam.out 1
      have zanda := zanaj zanam.out 2
      have zandb := zanaj zanam.out 3
      have zandc := zanaj zanam.out 4
      go_wp2
      repeat (go_quiet (fail); try go_wp2)
      go_meet
      case rel => exact ⟨_, (true), (by first | rfl | (simp; done) | (simp [*]; done)), H', ⟨by first | omega | exact Nat.le_refl _⟩, ⟨zbk zanal⟩, ⟨zbk zanam⟩, ⟨zh2 HB zanaq zanat⟩⟩
    ·rw [if_neg c11] at H
     have c11b0 : (a0_2 == a1_2) = false := beq_eq_false_iff_ne.mpr c11
     have c11b1 : (a0_2 != a1_2) = true := bne_iff_ne.mpr c11
     have H' := zanak H
     clear H
     have hnb19 := zanar.out
     have hnc19 := zanas.out
     have zandd : w5.cell? ⟨zanan, 0, none⟩ = some (.int .i64 a0_0) := (zanai zanal.out 0).trans rfl
     have zande : w5.cell? ⟨zanan, 1, none⟩ = some (.bool a0_1) := (zanai zanal.out 1).trans rfl
     have zandf : w5.cell? ⟨zanan, 2, none⟩ = some (.int .i64 a0_2) := (zanai zanal.out 2).trans rfl
     have zandg : w5.cell? ⟨zanan, 3, none⟩ = some (.string a0_3) := (zanai zanal.out 3).trans rfl
     have zandh : w5.cell? ⟨zanan, 4, none⟩ = some (.slice A0_4 l0_4.length c0_4) := (zanai zanal.out 4).trans rfl
     have zandi := zanaj zanal.out 0
     have zandj := zanaj zanal.out 1
     have zandk := zanaj zanal.out 2
     have zandl := zanaj zanal.out 3
     have zandm := zanaj zanal.out 4
     have zandn : w5.cell? ⟨zanao, 0, none⟩ = some (.int .i64 a1_0) := (zanai zanam.out 0).trans rfl
     have zando : w5.cell? ⟨zanao, 1, none⟩ = some (.bool a1_1) := (zanai zanam.out 1).trans rfl
     have zandp : w5.cell? ⟨zanao, 2, none⟩ = some (.int .i64 a1_2) := (zanai zanam.out 2).trans rfl
     have zandq : w5.cell? ⟨zanao, 3, none⟩ = some (.string a1_3) := (zanai zanam.out 3).trans rfl
     have zandr : w5.cell? ⟨zanao, 4, none⟩ = some (.slice A1_4 l1_4.length c1_4) := (zanai zanam.out 4).trans rfl
     have zands := zanaj zanam.out 0
     have zandt := zanaj zanam.out 1
     have zandu := zanaj zanam.out 2
     have zandv := zanaj zanam.out 3
     have zandw := zanaj zanam.out 4
     go_wp2
     repeat (go_quiet (fail); try go_wp2)
     go_meet
     case rel => exact ⟨_, (true), (by first | rfl | (simp; done) | (simp [*]; done)), H', ⟨by first | omega | exact Nat.le_refl _⟩, ⟨zbk zanal⟩, ⟨zbk zanam⟩, ⟨zh2 HB zanaq zanat⟩⟩
  ·rw [if_neg c6] at H
   have c6b0 : (a0_0 == a1_0) = false := beq_eq_false_iff_ne.mpr c6
   have c6b1 : (a0_0 != a1_0) = true := bne_iff_ne.mpr c6
   (first | rw [c6b0] | (simp only [i64_w, i32_w]; rw [c6b0]) | skip)
   have H' := zanak H
   clear H
   have hnb22 := zanar.out
   have hnc22 := zanas.out
   have zandx : w5.cell? ⟨zanan, 0, none⟩ = some (.int .i64 a0_0) := (zanai zanal.out 0).trans rfl
   have zandy : w5.cell? ⟨zanan, 1, none⟩ = some (.bool a0_1) := (zanai zanal.out 1).trans rfl
   have zandz : w5.cell? ⟨zanan, 2, none⟩ = some (.int .i64 a0_2) := (zanai zanal.out 2).trans rfl
   have zanea : w5.cell? ⟨zanan, 3, none⟩ = some (.string a0_3) := (zanai zanal.out 3).trans rfl
   have zaneb : w5.cell? ⟨zanan, 4, none⟩ = some (.slice A0_4 l0_4.length c0_4) := (zanai zanal.out 4).trans rfl
   have zanec := zanaj zanal.out 0
   have zaned := zanaj zanal.out 1
   have zanee := zanaj zanal.out 2
   have zanef := zanaj zanal.out 3
   have zaneg := zanaj zanal.out 4
   have zaneh : w5.cell? ⟨zanao, 0, none⟩ = some (.int .i64 a1_0) := (zanai zanam.out 0).trans rfl
   have zanei : w5.cell? ⟨zanao, 1, none⟩ = some (.bool a1_1) := (zanai zanam.out 1).trans rfl
   have zanej : w5.cell? ⟨zanao, 2, none⟩ = some (.int .i64 a1_2) := (zanai zanam.out 2).trans rfl
   have zanek : w5.cell? ⟨zanao, 3, none⟩ = some (.string a1_3) := (zanai zanam.out 3).trans rfl
   have zanel : w5.cell? ⟨zanao, 4, none⟩ = some (.slice A1_4 l1_4.length c1_4) := (zanai zanam.out 4).trans rfl
   have zanem := zanaj zanam.out 0
   have zanen := zanaj zanam.out 1
   have zaneo := zanaj zanam.out 2
   have zanep := zanaj zanam.out 3
   have zaneq := zanaj zanam.out 4
   go_wp2
   repeat (go_quiet (fail); try go_wp2)
   go_meet
   case rel => exact ⟨_, (true), (by first | rfl | (simp; done) | (simp [*]; done)), H', ⟨by first | omega | exact Nat.le_refl _⟩, ⟨zbk zanal⟩, ⟨zbk zanam⟩, ⟨zh2 HB zanaq zanat⟩⟩
 case rest =>
  clear HC3
  try clear c1
  try clear c2
  try clear p2
  try clear c6
  try clear c6b0
  try clear c6b1
  try clear c7
  try clear c7b0
  try clear c7b1
  try clear c7b2
  try clear c8
  try clear c11
  try clear c11b0
  try clear c11b1
  try clear c12
  try clear c12b0
  try clear c12b1
  try clear c13
  try clear c16
  try clear c19
  try clear c22
  try clear c23
  try clear zanbf
  try clear zanbg
  try clear zanbh
  try clear zanbi
  try clear zanbj
  try clear zanbp
  try clear zanbq
  try clear zanbr
  try clear zanbs
  try clear zanbt
  try clear zanbz
  try clear zanca
  try clear zancb
  try clear zancc
  try clear zancd
  try clear zancj
  try clear zanck
  try clear zancl
  try clear zancm
  try clear zancn
  try clear zanct
  try clear zancu
  try clear zancv
  try clear zancw
  try clear zancx
  try clear zandd
  try clear zande
  try clear zandf
  try clear zandg
  try clear zandh
  try clear zandn
  try clear zando
  try clear zandp
  try clear zandq
  try clear zandr
  try clear zandx
  try clear zandy
  try clear zandz
  try clear zanea
  try clear zaneb
  try clear zaneh
  try clear zanei
  try clear zanej
  try clear zanek
  try clear zanel
  try clear zaner
  try clear zanes
  try clear zanet
  try clear zaneu
  try clear zanev
  try clear zanbk
  try clear zanbl
  try clear zanbm
  try clear zanbn
  try clear zanbo
  try clear zanbu
  try clear zanbv
  try clear zanbw
  try clear zanbx
  try clear zanby
  try clear zance
  try clear zancf
  try clear zancg
  try clear zanch
  try clear zanci
  try clear zanco
  try clear zancp
  try clear zancq
  try clear zancr
  try clear zancs
  try clear zancy
  try clear zancz
  try clear zanda
  try clear zandb
  try clear zandc
  try clear zandi
  try clear zandj
  try clear zandk
  try clear zandl
  try clear zandm
  try clear zands
  try clear zandt
  try clear zandu
  try clear zandv
  try clear zandw
  try clear zanec
  try clear zaned
  try clear zanee
  try clear zanef
  try clear zaneg
  try clear zanem
  try clear zanen
  try clear zaneo
  try clear zanep
  try clear zaneq
  try clear zanew
  try clear zanex
  try clear zaney
  try clear zanez
  try clear zanfa
  obtain ⟨kq, zanbe, rfl, HA, HJ2, zanal, zanam, HB⟩ := hcut
  cases kq with
  | zero => exact absurd HA.out (by simp [stowageref13_Same.j0])
  | succ kj2 =>
   have H := HA.out
   clear HA
   simp only [stowageref13_Same.j0] at H
   by_cases c25 : zanbe = true
   ·subst c25
    have H1 : (some false) = some r := by rw [if_pos rfl] at H; exact H
    clear H
    have H := H1
    clear H1
    obtain rfl := Option.some.inj H
    go_wp2
    repeat (go_quiet (fail); try go_wp2)
    go_ret
    exact ⟨by first | rfl | (simp [errW_none, errW_some] <;> rfl) | (simp [*, errW_none, errW_some] <;> rfl), zh2 HB zanaq zanat⟩
   ·replace c25 := Bool.eq_false_iff.mpr c25
    subst c25
    have H1 : (stowageref13_Same.l0 kj2 0 a0_0 a0_1 a0_2 a0_3 l0_4 a1_0 a1_1 a1_2 a1_3 l1_4) = some r := by rw [if_neg (show ¬ (false = true) by decide)] at H; exact H
    clear H
    have H := H1
    clear H1
    have H' := zanak H
    clear H
    go_wp2
    repeat (go_quiet (fail); try go_wp2)
    go_loopg [5] kj2 (fun kq v5 w' => ∃ (zanap : Int), v5 = .int .i64 zanap ∧ Aside0 (stowageref13_Same.l0 kq zanap a0_0 a0_1 a0_2 a0_3 l0_4 a1_0 a1_1 a1_2 a1_3 l1_4 = some r) ∧ Aside0 (kq ≤ kj2) ∧ Aside0 (w'.heap[zanan]? = some (.cells #[.int .i64 a0_0, .bool a0_1, .int .i64 a0_2, .string a0_3, (.slice A0_4 l0_4.length c0_4)] 36 (0, 0))) ∧ Aside0 (w'.heap[zanao]? = some (.cells #[.int .i64 a1_0, .bool a1_1, .int .i64 a1_2, .string a1_3, (.slice A1_4 l1_4.length c1_4)] 36 (0, 0))) ∧ Aside0 (Below w.heap.size w w'))
    case atStart => exact ⟨(0), (by first | rfl | (simp; done) | (simp [*]; done)), H', ⟨Nat.le_refl _⟩, ⟨zbk zanal⟩, ⟨zbk zanam⟩, ⟨zh2 HB zanaq zanat⟩⟩
    case round =>
     clear H'
     try clear c1
     try clear c2
     try clear p2
     try clear c6
     try clear c6b0
     try clear c6b1
     try clear p6
     try clear c7
     try clear c7b0
     try clear c7b1
     try clear c7b2
     try clear c8
     try clear c11
     try clear c11b0
     try clear c11b1
     try clear c12
     try clear c12b0
     try clear c12b1
     try clear c13
     try clear c16
     try clear c19
     try clear c22
     try clear c23
     try clear c25
     try clear zanbf
     try clear zanbg
     try clear zanbh
     try clear zanbi
     try clear zanbj
     try clear zanbp
     try clear zanbq
     try clear zanbr
     try clear zanbs
     try clear zanbt
     try clear zanbz
     try clear zanca
     try clear zancb
     try clear zancc
     try clear zancd
     try clear zancj
     try clear zanck
     try clear zancl
     try clear zancm
     try clear zancn
     try clear zanct
     try clear zancu
     try clear zancv
     try clear zancw
     try clear zancx
     try clear zandd
     try clear zande
     try clear zandf
     try clear zandg
     try clear zandh
     try clear zandn
     try clear zando
     try clear zandp
     try clear zandq
     try clear zandr
     try clear zandx
     try clear zandy
     try clear zandz
     try clear zanea
     try clear zaneb
     try clear zaneh
     try clear zanei
     try clear zanej
     try clear zanek
     try clear zanel
     try clear zaner
     try clear zanes
     try clear zanet
     try clear zaneu
     try clear zanev
     try clear zanbk
     try clear zanbl
     try clear zanbm
     try clear zanbn
     try clear zanbo
     try clear zanbu
     try clear zanbv
     try clear zanbw
     try clear zanbx
     try clear zanby
     try clear zance
     try clear zancf
     try clear zancg
     try clear zanch
     try clear zanci
     try clear zanco
     try clear zancp
     try clear zancq
     try clear zancr
     try clear zancs
     try clear zancy
     try clear zancz
     try clear zanda
     try clear zandb
     try clear zandc
     try clear zandi
     try clear zandj
     try clear zandk
     try clear zandl
     try clear zandm
     try clear zands
     try clear zandt
     try clear zandu
     try clear zandv
     try clear zandw
     try clear zanec
     try clear zaned
     try clear zanee
     try clear zanef
     try clear zaneg
     try clear zanem
     try clear zanen
     try clear zaneo
     try clear zanep
     try clear zaneq
     try clear zanew
     try clear zanex
     try clear zaney
     try clear zanez
     try clear zanfa
     try clear p2
     obtain ⟨zanap, rfl, HA, HK2, zanal, zanam, HB⟩ := hrel
     cases gk with
     | zero => exact absurd HA.out (by simp [stowageref13_Same.l0])
     | succ k2 =>
      have H := HA.out
      clear HA
      simp only [stowageref13_Same.l0] at H
      by_cases c26 : zanap < (l0_4.length : Int)
      ·rw [if_pos c26] at H
       have c26b0 : decide (zanap < (l0_4.length : Int)) = true := decide_eq_true c26
       clear c26
       by_cases c27 : 0 ≤ zanap
       ·rw [if_pos c27] at H
        have c27b0 : decide (0 ≤ zanap) = true := decide_eq_true c27
        clear c27
        by_cases c28 : zanap < (l1_4.length : Int)
        ·rw [if_pos c28] at H
         have c28b0 : decide (zanap < (l1_4.length : Int)) = true := decide_eq_true c28
         clear c28
         by_cases c29 : (!((((rd_T74 l0_4 zanap).f0).toList) == (((rd_T74 l1_4 zanap).f0).toList)) || (!(((rd_T74 l0_4 zanap).f1) == ((rd_T74 l1_4 zanap).f1)))) = true
         ·rw [if_pos c29] at H
          have c29b0 : (!((((rd_T74 l0_4 zanap).f0).toList) == (((rd_T74 l1_4 zanap).f0).toList)) || (!(((rd_T74 l0_4 zanap).f1) == ((rd_T74 l1_4 zanap).f1)))) = true := c29
          clear c29
          obtain rfl := Option.some.inj H
          have hnb30 := zanar.out
          have hnc30 := zanas.out
          have zanfd : wr.cell? ⟨zanan, 0, none⟩ = some (.int .i64 a0_0) := (zanai zanal.out 0).trans rfl
          have zanfe : wr.cell? ⟨zanan, 1, none⟩ = some (.bool a0_1) := (zanai zanal.out 1).trans rfl
          have zanff : wr.cell? ⟨zanan, 2, none⟩ = some (.int .i64 a0_2) := (zanai zanal.out 2).trans rfl
          have zanfg : wr.cell? ⟨zanan, 3, none⟩ = some (.string a0_3) := (zanai zanal.out 3).trans rfl
          have zanfh : wr.cell? ⟨zanan, 4, none⟩ = some (.slice A0_4 l0_4.length c0_4) := (zanai zanal.out 4).trans rfl
          have zanfi := zanaj zanal.out 0
          have zanfj := zanaj zanal.out 1
          have zanfk := zanaj zanal.out 2
          have zanfl := zanaj zanal.out 3
          have zanfm := zanaj zanal.out 4
          have p274 : 0 ≤ (zanap : Int) := of_decide_eq_true (by first | (with_reducible assumption) | assumption)
          have q274 : zanap < (l0_4.length : Int) := of_decide_eq_true (by first | (with_reducible assumption) | assumption)
          obtain ⟨ad274, e274, hx274_0, hx274_1⟩ := at_T74 HR0_4.out zanap p274 q274
          cases e274
          replace hx274_0 := (HB.out.cell (zanaa w _ hx274_0)).trans hx274_0
          replace hx274_1 := (HB.out.cell (zanaa w _ hx274_1)).trans hx274_1
          replace p274 := eq_true p274
          replace q274 := eq_true q274
          have zanfn : wr.cell? ⟨zanao, 0, none⟩ = some (.int .i64 a1_0) := (zanai zanam.out 0).trans rfl
          have zanfo : wr.cell? ⟨zanao, 1, none⟩ = some (.bool a1_1) := (zanai zanam.out 1).trans rfl
          have zanfp : wr.cell? ⟨zanao, 2, none⟩ = some (.int .i64 a1_2) := (zanai zanam.out 2).trans rfl
          have zanfq : wr.cell? ⟨zanao, 3, none⟩ = some (.string a1_3) := (zanai zanam.out 3).trans rfl
          have zanfr : wr.cell? ⟨zanao, 4, none⟩ = some (.slice A1_4 l1_4.length c1_4) := (zanai zanam.out 4).trans rfl
          have zanfs := zanaj zanam.out 0
          have zanft := zanaj zanam.out 1
          have zanfu := zanaj zanam.out 2
          have zanfv := zanaj zanam.out 3
          have zanfw := zanaj zanam.out 4
          have p275 : 0 ≤ (zanap : Int) := of_decide_eq_true (by first | (with_reducible assumption) | assumption)
          have q275 : zanap < (l1_4.length : Int) := of_decide_eq_true (by first | (with_reducible assumption) | assumption)
          obtain ⟨ad275, e275, hx275_0, hx275_1⟩ := at_T74 HR1_4.out zanap p275 q275
          cases e275
          replace hx275_0 := (HB.out.cell (zanaa w _ hx275_0)).trans hx275_0
          replace hx275_1 := (HB.out.cell (zanaa w _ hx275_1)).trans hx275_1
          replace p275 := eq_true p275
          replace q275 := eq_true q275
          go_wp2
          repeat (go_quiet (fail); try go_wp2)
          go_ret
          exact ⟨by first | rfl | (simp [errW_none, errW_some] <;> rfl) | (simp [*, errW_none, errW_some] <;> rfl), zh2 HB zanaq zanat⟩
         ·rw [if_neg c29] at H
          have c29b0 : (!((((rd_T74 l0_4 zanap).f0).toList) == (((rd_T74 l1_4 zanap).f0).toList)) || (!(((rd_T74 l0_4 zanap).f1) == ((rd_T74 l1_4 zanap).f1)))) = false := by simpa using c29
          clear c29
          have H' := zanak H
          clear H
          have hnb33 := zanar.out
          have hnc33 := zanas.out
          have zanfx : wr.cell? ⟨zanan, 0, none⟩ = some (.int .i64 a0_0) := (zanai zanal.out 0).trans rfl
          have zanfy : wr.cell? ⟨zanan, 1, none⟩ = some (.bool a0_1) := (zanai zanal.out 1).trans rfl
          have zanfz : wr.cell? ⟨zanan, 2, none⟩ = some (.int .i64 a0_2) := (zanai zanal.out 2).trans rfl
          have zanga : wr.cell? ⟨zanan, 3, none⟩ = some (.string a0_3) := (zanai zanal.out 3).trans rfl
          have zangb : wr.cell? ⟨zanan, 4, none⟩ = some (.slice A0_4 l0_4.length c0_4) := (zanai zanal.out 4).trans rfl
          have zangc := zanaj zanal.out 0
          have zangd := zanaj zanal.out 1
          have zange := zanaj zanal.out 2
          have zangf := zanaj zanal.out 3
          have zangg := zanaj zanal.out 4
          have p274 : 0 ≤ (zanap : Int) := of_decide_eq_true (by first | (with_reducible assumption) | assumption)
          have q274 : zanap < (l0_4.length : Int) := of_decide_eq_true (by first | (with_reducible assumption) | assumption)
          obtain ⟨ad274, e274, hx274_0, hx274_1⟩ := at_T74 HR0_4.out zanap p274 q274
          cases e274
          replace hx274_0 := (HB.out.cell (zanaa w _ hx274_0)).trans hx274_0
          replace hx274_1 := (HB.out.cell (zanaa w _ hx274_1)).trans hx274_1
          replace p274 := eq_true p274
          replace q274 := eq_true q274
          have zangh : wr.cell? ⟨zanao, 0, none⟩ = some (.int .i64 a1_0) := (zanai zanam.out 0).trans rfl
          have zangi : wr.cell? ⟨zanao, 1, none⟩ = some (.bool a1_1) := (zanai zanam.out 1).trans rfl
          have zangj : wr.cell? ⟨zanao, 2, none⟩ = some (.int .i64 a1_2) := (zanai zanam.out 2).trans rfl
          have zangk : wr.cell? ⟨zanao, 3, none⟩ = some (.string a1_3) := (zanai zanam.out 3).trans rfl
          have zangl : wr.cell? ⟨zanao, 4, none⟩ = some (.slice A1_4 l1_4.length c1_4) := (zanai zanam.out 4).trans rfl
          have zangm := zanaj zanam.out 0
          have zangn := zanaj zanam.out 1
          have zango := zanaj zanam.out 2
          have zangp := zanaj zanam.out 3
          have zangq := zanaj zanam.out 4
          have p275 : 0 ≤ (zanap : Int) := of_decide_eq_true (by first | (with_reducible assumption) | assumption)
          have q275 : zanap < (l1_4.length : Int) := of_decide_eq_true (by first | (with_reducible assumption) | assumption)
          obtain ⟨ad275, e275, hx275_0, hx275_1⟩ := at_T74 HR1_4.out zanap p275 q275
          cases e275
          replace hx275_0 := (HB.out.cell (zanaa w _ hx275_0)).trans hx275_0
          replace hx275_1 := (HB.out.cell (zanaa w _ hx275_1)).trans hx275_1
          replace p275 := eq_true p275
          replace q275 := eq_true q275
          go_wp2
          repeat (go_quiet (fail); try go_wp2)
          go_roundg k2
          case measure => have := HJ2.out; have := HK2.out; omega
          case rel => exact ⟨(wrap64 (zanap + 1)), (by first | rfl | (simp; done) | (simp [*]; done)), H', ⟨by have := HJ2.out; have := HK2.out; omega⟩, ⟨zbk zanal⟩, ⟨zbk zanam⟩, ⟨zh2 HB zanaq zanat⟩⟩
        ·rw [if_neg c28] at H
         exact absurd H (by simp)
       ·rw [if_neg c27] at H
        exact absurd H (by simp)
      ·rw [if_neg c26] at H
       have c26b0 : decide (zanap < (l0_4.length : Int)) = false := decide_eq_false c26
       clear c26
       obtain rfl := Option.some.inj H
       have hnb36 := zanar.out
       have hnc36 := zanas.out
       have zangr : wr.cell? ⟨zanan, 0, none⟩ = some (.int .i64 a0_0) := (zanai zanal.out 0).trans rfl
       have zangs : wr.cell? ⟨zanan, 1, none⟩ = some (.bool a0_1) := (zanai zanal.out 1).trans rfl
       have zangt : wr.cell? ⟨zanan, 2, none⟩ = some (.int .i64 a0_2) := (zanai zanal.out 2).trans rfl
       have zangu : wr.cell? ⟨zanan, 3, none⟩ = some (.string a0_3) := (zanai zanal.out 3).trans rfl
       have zangv : wr.cell? ⟨zanan, 4, none⟩ = some (.slice A0_4 l0_4.length c0_4) := (zanai zanal.out 4).trans rfl
       have zangw := zanaj zanal.out 0
       have zangx := zanaj zanal.out 1
       have zangy := zanaj zanal.out 2
       have zangz := zanaj zanal.out 3
       have zanha := zanaj zanal.out 4
       go_wp2
       repeat (go_quiet (fail); try go_wp2)
       go_ret
       exact ⟨by first | rfl | (simp [errW_none, errW_some] <;> rfl) | (simp [*, errW_none, errW_some] <;> rfl), zh2 HB zanaq zanat⟩

end Go.Proofs.Ytmpnaaegahjfkaa.Q