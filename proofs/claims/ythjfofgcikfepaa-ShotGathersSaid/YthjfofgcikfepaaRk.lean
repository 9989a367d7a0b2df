/- A function of the document's answer, printed: which snapshots may be. -/
import Derived.Test.YthjfofgcikfepaaQx0
namespace Go.Proofs.Ythjfofgcikfepaa.Q
open Go.RowKit Go.Proofs.YthjfofgcikfepaaW.PrintWords Go.Proofs.YthjfofgcikfepaaW.PrintLast Go.Proofs.YthjfofgcikfepaaW.PrintMore
attribute [local go_sem] max2_int min2_int max_two min_two max_three min_three max_four min_four   -- for this text's walks alone
set_option linter.unusedVariables false
set_option linter.unusedSimpArgs false

attribute [local go_sem] xor_ones_u8 xor_ones_u16 xor_ones_u32 xor_ones_u64 cell_twice frozen_twice
abbrev zamaa := @World.block_lt_of_cell?
abbrev zamab := @blk_drewN
abbrev zamac := @blk_alloc
abbrev zamad := @blk_drew
abbrev zamae := @below_set
abbrev zamaf := @pw_below_drewN
abbrev zamag := @below_drew1
abbrev zamah := @below_alloc
abbrev zamai := @blk_cell
abbrev zamaj := @blk_frozen
abbrev zamak := @Aside0.mk
/-! ### stowageref07_Check: function 18 -/
mutual
def stowageref07_Check.j0 : Nat → Bool → Int → Int → List Int → ByteArray → Option (Int)
 | 0, _, _, _, _, _ => none
 | k + 1, x33, zamar, zamas, zamap, zamaq => if x33 = true then (some 1) else (stowageref07_Check.l0 k 0 zamar zamas zamap zamaq)
def stowageref07_Check.l0 : Nat → Int → Int → Int → List Int → ByteArray → Option (Int)
 | 0, _, _, _, _, _ => none
 | k + 1, x3, zamar, zamas, zamap, zamaq => if x3 < (zamap.length : Int) then (if 0 ≤ x3 then (if (rd zamap x3) < 0 then (some 1) else (if (rd zamap x3) > 6 then (some 1) else (if x3 > 0 then (if 0 ≤ (wrap64 (x3 - 1)) then (if (wrap64 (x3 - 1)) < (zamap.length : Int) then (if (rd zamap x3) ≤ (rd zamap (wrap64 (x3 - 1))) then (some 1) else (stowageref07_Check.l0 k (wrap64 (x3 + 1)) zamar zamas zamap zamaq)) else (none)) else (none)) else (stowageref07_Check.l0 k (wrap64 (x3 + 1)) zamar zamas zamap zamaq)))) else (none)) else (if (zamaq.size : Int) > 131072 then (some 2) else (some 0))
end
def stowageref07_Check.f (k : Nat) (a0_0 : Int) (a0_1 : Int) (l0_2 : List Int) (a0_3 : ByteArray) : Option (Int) := if a0_0 < 0 then (stowageref07_Check.j0 k true a0_0 a0_1 l0_2 a0_3) else (if a0_0 > 1099511627776 then (stowageref07_Check.j0 k true a0_0 a0_1 l0_2 a0_3) else (if a0_1 < 0 then (stowageref07_Check.j0 k true a0_0 a0_1 l0_2 a0_3) else (if a0_1 > 1099511627776 then (stowageref07_Check.j0 k true a0_0 a0_1 l0_2 a0_3) else (if (l0_2.length : Int) < 1 then (stowageref07_Check.j0 k true a0_0 a0_1 l0_2 a0_3) else (stowageref07_Check.j0 k (decide ((l0_2.length : Int) > 7)) a0_0 a0_1 l0_2 a0_3)))))
theorem stowageref07_Check.mono_l : ∀ k, (∀ y0 y1 y2 y3 y4, LeO (stowageref07_Check.j0 k y0 y1 y2 y3 y4) (stowageref07_Check.j0 (k + 1) y0 y1 y2 y3 y4)) ∧ (∀ y0 y1 y2 y3 y4, LeO (stowageref07_Check.l0 k y0 y1 y2 y3 y4) (stowageref07_Check.l0 (k + 1) y0 y1 y2 y3 y4))
 | 0 => ⟨fun _ _ _ _ _ r h => by simp [stowageref07_Check.j0] at h, fun _ _ _ _ _ r h => by simp [stowageref07_Check.l0] at h⟩
 | k + 1 => by
  obtain ⟨ih0, ih1⟩ := stowageref07_Check.mono_l k
  refine ⟨?_, ?_⟩
  ·intro y0 y1 y2 y3 y4
   unfold stowageref07_Check.j0
   repeat' first
   | (with_reducible exact ih0 _ _ _ _ _)
   | (with_reducible exact ih1 _ _ _ _ _)
   | (with_reducible exact LeO.refl _)
   | (with_reducible exact LeO.none _)
   | (with_reducible refine LeO.ite ?_ ?_)
   | (with_reducible refine LeO.bind ?_ (fun _ => ?_))
   | exact ih0 _ _ _ _ _
   | exact ih1 _ _ _ _ _
   | exact LeO.none _
   | refine LeO.ite ?_ ?_
   | refine LeO.bind ?_ (fun _ => ?_)
  ·intro y0 y1 y2 y3 y4
   unfold stowageref07_Check.l0
   repeat' first
   | (with_reducible exact ih0 _ _ _ _ _)
   | (with_reducible exact ih1 _ _ _ _ _)
   | (with_reducible exact LeO.refl _)
   | (with_reducible exact LeO.none _)
   | (with_reducible refine LeO.ite ?_ ?_)
   | (with_reducible refine LeO.bind ?_ (fun _ => ?_))
   | exact ih0 _ _ _ _ _
   | exact ih1 _ _ _ _ _
   | exact LeO.none _
   | refine LeO.ite ?_ ?_
   | refine LeO.bind ?_ (fun _ => ?_)
theorem stowageref07_Check.mono : ∀ a0 a1 a2 a3 k, LeO (stowageref07_Check.f k a0 a1 a2 a3) (stowageref07_Check.f (k + 1) a0 a1 a2 a3) := by
 intro a0 a1 a2 a3 k
 obtain ⟨ih0, ih1⟩ := stowageref07_Check.mono_l k
 unfold stowageref07_Check.f
 repeat' first
   | (with_reducible exact ih0 _ _ _ _ _)
   | (with_reducible exact ih1 _ _ _ _ _)
   | (with_reducible exact LeO.refl _)
   | (with_reducible exact LeO.none _)
   | (with_reducible refine LeO.ite ?_ ?_)
   | (with_reducible refine LeO.bind ?_ (fun _ => ?_))
   | exact ih0 _ _ _ _ _
   | exact ih1 _ _ _ _ _
   | exact LeO.none _
   | refine LeO.ite ?_ ?_
   | refine LeO.bind ?_ (fun _ => ?_)
set_option maxHeartbeats 8000000 in
set_option maxRecDepth 100000 in
theorem stowageref07_Check.calls (k : Nat) (a0_0 : Int) (a0_1 : Int) (A0_2 : Option Addr) (c0_2 : Nat) (l0_2 : List Int) (a0_3 : ByteArray) (r : Int) (w : World) (hr0_2 : Kd.C (Kd.int .i64) w A0_2 l0_2.length l0_2) (hc0_2 : l0_2.length ≤ c0_2) (h : stowageref07_Check.f k a0_0 a0_1 l0_2 a0_3 = some r) :
  Calls Try.prog 18 #[.agg #[.int .i64 a0_0, .int .i64 a0_1, .slice A0_2 l0_2.length c0_2, .string a0_3]] w fun e w' => e = .returned (.int .i64 r) ∧ Below w.heap.size w w' := by
 have hu30 := Try.underlying30
 have HR0_2 := zamak hr0_2
 have HC0_2 := zamak hc0_2
 clear hr0_2 hc0_2
 have HB := zamak (Below.refl w.heap.size w)
 have H : (if a0_0 < 0 then (stowageref07_Check.j0 k true a0_0 a0_1 l0_2 a0_3) else (if a0_0 > 1099511627776 then (stowageref07_Check.j0 k true a0_0 a0_1 l0_2 a0_3) else (if a0_1 < 0 then (stowageref07_Check.j0 k true a0_0 a0_1 l0_2 a0_3) else (if a0_1 > 1099511627776 then (stowageref07_Check.j0 k true a0_0 a0_1 l0_2 a0_3) else (if (l0_2.length : Int) < 1 then (stowageref07_Check.j0 k true a0_0 a0_1 l0_2 a0_3) else (stowageref07_Check.j0 k (decide ((l0_2.length : Int) > 7)) a0_0 a0_1 l0_2 a0_3)))))) = some r := h
 clear h
 have HC2 := zamak H
 clear H
 go_enter Try.func18, Try.ntmps18
 go_upto_region 1 with (first | ((with_reducible refine gate_dst (N := 1) rfl ?_); (try (refine gate_guard (by rfl) ?_; dsimp only)); refine box_event ?hg (N := 1) ?hd (cs := #[.int .i64 a0_0, .int .i64 a0_1, .slice A0_2 l0_2.length c0_2, .string a0_3]) (t := 30) ?hr ?_; (case hd => rfl); (case hg => rfl); (case hr => first | (go_simp; done) | (go_simp; rfl)); intro zamam hg w3 hbox hb; have n0_ := zamak (below_step (by repeat (first | (with_reducible first | exact HB.out | apply zamah | apply zamaf | apply zamag) | exact HB.out)) hb); have n1_ := zamak (hbox); have n2_ := zamak ((by rw [hg]; exact (below_size (by repeat (first | (with_reducible first | exact HB.out | apply zamah | apply zamaf | apply zamag) | exact HB.out))) : w.heap.size ≤ zamam)); have n3_ := zamak ((by rw [hg]; exact (below_size (by repeat (first | (with_reducible first | exact HB.out | apply zamah | apply zamaf | apply zamag) | exact HB.out))) : w.heap.size ≤ zamam)); clear HB; have HB := n0_; have zamal := n1_; have zamcq := n2_; have zamao := n3_; clear n0_ n1_ n2_ n3_; clear hb hbox hg))
 repeat (go_quiet (first | ((with_reducible refine gate_dst (N := 1) rfl ?_); (try (refine gate_guard (by rfl) ?_; dsimp only)); refine box_event ?hg (N := 1) ?hd (cs := #[.int .i64 a0_0, .int .i64 a0_1, .slice A0_2 l0_2.length c0_2, .string a0_3]) (t := 30) ?hr ?_; (case hd => rfl); (case hg => rfl); (case hr => first | (go_simp; done) | (go_simp; rfl)); intro zamam hg w3 hbox hb; have n0_ := zamak (below_step (by repeat (first | (with_reducible first | exact HB.out | apply zamah | apply zamaf | apply zamag) | exact HB.out)) hb); have n1_ := zamak (hbox); have n2_ := zamak ((by rw [hg]; exact (below_size (by repeat (first | (with_reducible first | exact HB.out | apply zamah | apply zamaf | apply zamag) | exact HB.out))) : w.heap.size ≤ zamam)); have n3_ := zamak ((by rw [hg]; exact (below_size (by repeat (first | (with_reducible first | exact HB.out | apply zamah | apply zamaf | apply zamag) | exact HB.out))) : w.heap.size ≤ zamam)); clear HB; have HB := n0_; have zamal := n1_; have zamcq := n2_; have zamao := n3_; clear n0_ n1_ n2_ n3_; clear hb hbox hg)); go_upto_region 1 with (first | ((with_reducible refine gate_dst (N := 1) rfl ?_); (try (refine gate_guard (by rfl) ?_; dsimp only)); refine box_event ?hg (N := 1) ?hd (cs := #[.int .i64 a0_0, .int .i64 a0_1, .slice A0_2 l0_2.length c0_2, .string a0_3]) (t := 30) ?hr ?_; (case hd => rfl); (case hg => rfl); (case hr => first | (go_simp; done) | (go_simp; rfl)); intro zamam hg w3 hbox hb; have n0_ := zamak (below_step (by repeat (first | (with_reducible first | exact HB.out | apply zamah | apply zamaf | apply zamag) | exact HB.out)) hb); have n1_ := zamak (hbox); have n2_ := zamak ((by rw [hg]; exact (below_size (by repeat (first | (with_reducible first | exact HB.out | apply zamah | apply zamaf | apply zamag) | exact HB.out))) : w.heap.size ≤ zamam)); have n3_ := zamak ((by rw [hg]; exact (below_size (by repeat (first | (with_reducible first | exact HB.out | apply zamah | apply zamaf | apply zamag) | exact HB.out))) : w.heap.size ≤ zamam)); clear HB; have HB := n0_; have zamal := n1_; have zamcq := n2_; have zamao := n3_; clear n0_ n1_ n2_ n3_; clear hb hbox hg)))
 (try simp only [Act.put, List.setIfInBounds_toArray, List.set_cons_zero, List.set_cons_succ])
 go_cut [33] (fun v33 wc => ∃ (kq : Nat) (zamat : Bool), v33 = .bool zamat ∧ Aside0 (stowageref07_Check.j0 kq zamat a0_0 a0_1 l0_2 a0_3 = some r) ∧ Aside0 (kq ≤ k) ∧ Aside0 (wc.heap[zamam]? = some (.cells #[.int .i64 a0_0, .int .i64 a0_1, (.slice A0_2 l0_2.length c0_2), .string a0_3] 30 (0, 0))) ∧ Aside0 (Below w.heap.size w wc))
 case first =>
  have H := HC2.out
  clear HC2
  by_cases c4 : a0_0 < 0
  ·rw [if_pos c4] at H
   have c4b0 : decide (a0_0 < 0) = true := decide_eq_true c4
   clear c4
   (first | rw [c4b0] | (simp only [i64_w, i32_w]; rw [c4b0]) | skip)
   have H' := zamak H
   clear H
   have zambs : w3.cell? ⟨zamam, 0, none⟩ = some (.int .i64 a0_0) := (zamai zamal.out 0).trans rfl
   have zambt : w3.cell? ⟨zamam, 1, none⟩ = some (.int .i64 a0_1) := (zamai zamal.out 1).trans rfl
   have zambu : w3.cell? ⟨zamam, 2, none⟩ = some (.slice A0_2 l0_2.length c0_2) := (zamai zamal.out 2).trans rfl
   have zambv : w3.cell? ⟨zamam, 3, none⟩ = some (.string a0_3) := (zamai zamal.out 3).trans rfl
   have zambw := zamaj zamal.out 0
   have zambx := zamaj zamal.out 1
   have zamby := zamaj zamal.out 2
   have zambz := zamaj zamal.out 3
   go_wp2
   repeat (go_quiet (fail); try go_wp2)
   go_meet
   case rel => exact ⟨_, (true), (by first | rfl | (simp; done) | (simp [*]; done)), H', ⟨by first | omega | exact Nat.le_refl _⟩, ⟨by (with_reducible repeat (first | refine zamab ?_ _ | refine zamad ?_ | refine zamac ?_ _)); exact zamal.out⟩, ⟨by repeat (first | (with_reducible first | exact HB.out | apply zamah | apply zamaf | apply zamag | refine zamae ?_ zamao.out) | exact HB.out)⟩⟩
  ·rw [if_neg c4] at H
   have c4b0 : decide (a0_0 < 0) = false := decide_eq_false c4
   clear c4
   (first | rw [c4b0] | (simp only [i64_w, i32_w]; rw [c4b0]) | skip)
   by_cases c6 : a0_0 > 1099511627776
   ·rw [if_pos c6] at H
    have c6b0 : decide (1099511627776 < a0_0) = true := decide_eq_true c6
    clear c6
    have H' := zamak H
    clear H
    have zamca : w3.cell? ⟨zamam, 0, none⟩ = some (.int .i64 a0_0) := (zamai zamal.out 0).trans rfl
    have zamcb : w3.cell? ⟨zamam, 1, none⟩ = some (.int .i64 a0_1) := (zamai zamal.out 1).trans rfl
    have zamcc : w3.cell? ⟨zamam, 2, none⟩ = some (.slice A0_2 l0_2.length c0_2) := (zamai zamal.out 2).trans rfl
    have zamcd : w3.cell? ⟨zamam, 3, none⟩ = some (.string a0_3) := (zamai zamal.out 3).trans rfl
    have zamce := zamaj zamal.out 0
    have zamcf := zamaj zamal.out 1
    have zamcg := zamaj zamal.out 2
    have zamch := zamaj zamal.out 3
    go_wp2
    repeat (go_quiet (fail); try go_wp2)
    go_meet
    case rel => exact ⟨_, (true), (by first | rfl | (simp; done) | (simp [*]; done)), H', ⟨by first | omega | exact Nat.le_refl _⟩, ⟨by (with_reducible repeat (first | refine zamab ?_ _ | refine zamad ?_ | refine zamac ?_ _)); exact zamal.out⟩, ⟨by repeat (first | (with_reducible first | exact HB.out | apply zamah | apply zamaf | apply zamag | refine zamae ?_ zamao.out) | exact HB.out)⟩⟩
   ·rw [if_neg c6] at H
    have c6b0 : decide (1099511627776 < a0_0) = false := decide_eq_false c6
    clear c6
    by_cases c8 : a0_1 < 0
    ·rw [if_pos c8] at H
     have c8b0 : decide (a0_1 < 0) = true := decide_eq_true c8
     clear c8
     have H' := zamak H
     clear H
     have zamci : w3.cell? ⟨zamam, 0, none⟩ = some (.int .i64 a0_0) := (zamai zamal.out 0).trans rfl
     have zamcj : w3.cell? ⟨zamam, 1, none⟩ = some (.int .i64 a0_1) := (zamai zamal.out 1).trans rfl
     have zamck : w3.cell? ⟨zamam, 2, none⟩ = some (.slice A0_2 l0_2.length c0_2) := (zamai zamal.out 2).trans rfl
     have zamcl : w3.cell? ⟨zamam, 3, none⟩ = some (.string a0_3) := (zamai zamal.out 3).trans rfl
     have zamcm := zamaj zamal.out 0
     have zamcn := zamaj zamal.out 1
     have zamco := zamaj zamal.out 2
     have zamcp := zamaj zamal.out 3
     go_wp2
     repeat (go_quiet (fail); try go_wp2)
     go_meet
     case rel => exact ⟨_, (true), (by first | rfl | (simp; done) | (simp [*]; done)), H', ⟨by first | omega | exact Nat.le_refl _⟩, ⟨by (with_reducible repeat (first | refine zamab ?_ _ | refine zamad ?_ | refine zamac ?_ _)); exact zamal.out⟩, ⟨by repeat (first | (with_reducible first | exact HB.out | apply zamah | apply zamaf | apply zamag | refine zamae ?_ zamao.out) | exact HB.out)⟩⟩
    ·rw [if_neg c8] at H
     have c8b0 : decide (a0_1 < 0) = false := decide_eq_false c8
     clear c8
     by_cases c10 : a0_1 > 1099511627776
     ·rw [if_pos c10] at H
      have c10b0 : decide (1099511627776 < a0_1) = true := decide_eq_true c10
      clear c10
      have H' := zamak H
      clear H
      have zamau : w3.cell? ⟨zamam, 0, none⟩ = some (.int .i64 a0_0) := (zamai zamal.out 0).trans rfl
      have zamav : w3.cell? ⟨zamam, 1, none⟩ = some (.int .i64 a0_1) := (zamai zamal.out 1).trans rfl
      have zamaw : w3.cell? ⟨zamam, 2, none⟩ = some (.slice A0_2 l0_2.length c0_2) := (zamai zamal.out 2).trans rfl
      have zamax : w3.cell? ⟨zamam, 3, none⟩ = some (.string a0_3) := (zamai zamal.out 3).trans rfl
      have zamay := zamaj zamal.out 0
      have zamaz := zamaj zamal.out 1
      have zamba := zamaj zamal.out 2
      have zambb := zamaj zamal.out 3
      go_wp2
      repeat (go_quiet (fail); try go_wp2)
      go_meet
      case rel => exact ⟨_, (true), (by first | rfl | (simp; done) | (simp [*]; done)), H', ⟨by first | omega | exact Nat.le_refl _⟩, ⟨by (with_reducible repeat (first | refine zamab ?_ _ | refine zamad ?_ | refine zamac ?_ _)); exact zamal.out⟩, ⟨by repeat (first | (with_reducible first | exact HB.out | apply zamah | apply zamaf | apply zamag | refine zamae ?_ zamao.out) | exact HB.out)⟩⟩
     ·rw [if_neg c10] at H
      have c10b0 : decide (1099511627776 < a0_1) = false := decide_eq_false c10
      clear c10
      by_cases c12 : (l0_2.length : Int) < 1
      ·rw [if_pos c12] at H
       have c12b0 : decide ((l0_2.length : Int) < 1) = true := decide_eq_true c12
       have c12b1 : decide (l0_2.length < 1) = true := decide_eq_true (by omega)
       clear c12
       have H' := zamak H
       clear H
       have zambc : w3.cell? ⟨zamam, 0, none⟩ = some (.int .i64 a0_0) := (zamai zamal.out 0).trans rfl
       have zambd : w3.cell? ⟨zamam, 1, none⟩ = some (.int .i64 a0_1) := (zamai zamal.out 1).trans rfl
       have zambe : w3.cell? ⟨zamam, 2, none⟩ = some (.slice A0_2 l0_2.length c0_2) := (zamai zamal.out 2).trans rfl
       have zambf : w3.cell? ⟨zamam, 3, none⟩ = some (.string a0_3) := (zamai zamal.out 3).trans rfl
       have zambg := zamaj zamal.out 0
       have zambh := zamaj zamal.out 1
       have zambi := zamaj zamal.out 2
       have zambj := zamaj zamal.out 3
       go_wp2
       repeat (go_quiet (fail); try go_wp2)
       go_meet
       case rel => exact ⟨_, (true), (by first | rfl | (simp; done) | (simp [*]; done)), H', ⟨by first | omega | exact Nat.le_refl _⟩, ⟨by (with_reducible repeat (first | refine zamab ?_ _ | refine zamad ?_ | refine zamac ?_ _)); exact zamal.out⟩, ⟨by repeat (first | (with_reducible first | exact HB.out | apply zamah | apply zamaf | apply zamag | refine zamae ?_ zamao.out) | exact HB.out)⟩⟩
      ·rw [if_neg c12] at H
       have c12b0 : decide ((l0_2.length : Int) < 1) = false := decide_eq_false c12
       have c12b1 : decide (l0_2.length < 1) = false := decide_eq_false (by omega)
       clear c12
       have H' := zamak H
       clear H
       have zambk : w3.cell? ⟨zamam, 0, none⟩ = some (.int .i64 a0_0) := (zamai zamal.out 0).trans rfl
       have zambl : w3.cell? ⟨zamam, 1, none⟩ = some (.int .i64 a0_1) := (zamai zamal.out 1).trans rfl
       have zambm : w3.cell? ⟨zamam, 2, none⟩ = some (.slice A0_2 l0_2.length c0_2) := (zamai zamal.out 2).trans rfl
       have zambn : w3.cell? ⟨zamam, 3, none⟩ = some (.string a0_3) := (zamai zamal.out 3).trans rfl
       have zambo := zamaj zamal.out 0
       have zambp := zamaj zamal.out 1
       have zambq := zamaj zamal.out 2
       have zambr := zamaj zamal.out 3
       go_wp2
       repeat (go_quiet (fail); try go_wp2)
       go_meet
       case rel => exact ⟨_, (decide ((l0_2.length : Int) > 7)), (by first | rfl | (simp; done) | (simp [*]; done)), H', ⟨by first | omega | exact Nat.le_refl _⟩, ⟨by (with_reducible repeat (first | refine zamab ?_ _ | refine zamad ?_ | refine zamac ?_ _)); exact zamal.out⟩, ⟨by repeat (first | (with_reducible first | exact HB.out | apply zamah | apply zamaf | apply zamag | refine zamae ?_ zamao.out) | exact HB.out)⟩⟩
 case rest =>
  clear HC2
  try clear c1
  try clear p2
  try clear c4
  try clear c4b0
  try clear c6
  try clear c6b0
  try clear c8
  try clear c8b0
  try clear c10
  try clear c10b0
  try clear c12
  try clear c12b0
  try clear c12b1
  try clear zamau
  try clear zamav
  try clear zamaw
  try clear zamax
  try clear zambc
  try clear zambd
  try clear zambe
  try clear zambf
  try clear zambk
  try clear zambl
  try clear zambm
  try clear zambn
  try clear zambs
  try clear zambt
  try clear zambu
  try clear zambv
  try clear zamca
  try clear zamcb
  try clear zamcc
  try clear zamcd
  try clear zamci
  try clear zamcj
  try clear zamck
  try clear zamcl
  try clear zamay
  try clear zamaz
  try clear zamba
  try clear zambb
  try clear zambg
  try clear zambh
  try clear zambi
  try clear zambj
  try clear zambo
  try clear zambp
  try clear zambq
  try clear zambr
  try clear zambw
  try clear zambx
  try clear zamby
  try clear zambz
  try clear zamce
  try clear zamcf
  try clear zamcg
  try clear zamch
  try clear zamcm
  try clear zamcn
  try clear zamco
  try clear zamcp
  obtain ⟨kq, zamat, rfl, HA, HJ1, zamal, HB⟩ := hcut
  cases kq with
  | zero => exact absurd HA.out (by simp [stowageref07_Check.j0])
  | succ kj1 =>
   have H := HA.out
   clear HA
   simp only [stowageref07_Check.j0] at H
   by_cases c15 : zamat = true
   ·subst c15
    have H1 : (some 1) = some r := by rw [if_pos rfl] at H; exact H
    clear H
    have H := H1
    clear H1
    obtain rfl := Option.some.inj H
    go_wp2
    repeat (go_quiet (fail); try go_wp2)
    go_ret
    exact ⟨by first | rfl | (simp [errW_none, errW_some] <;> rfl) | (simp [*, errW_none, errW_some] <;> rfl), by repeat (first | (with_reducible first | exact HB.out | apply zamah | apply zamaf | apply zamag | refine zamae ?_ zamao.out) | exact HB.out)⟩
   ·replace c15 := Bool.eq_false_iff.mpr c15
    subst c15
    have H1 : (stowageref07_Check.l0 kj1 0 a0_0 a0_1 l0_2 a0_3) = some r := by rw [if_neg (show ¬ (false = true) by decide)] at H; exact H
    clear H
    have H := H1
    clear H1
    have H' := zamak H
    clear H
    go_wp2
    repeat (go_quiet (fail); try go_wp2)
    go_loopg [3] kj1 (fun kq v3 w' => ∃ (zaman : Int), v3 = .int .i64 zaman ∧ Aside0 (stowageref07_Check.l0 kq zaman a0_0 a0_1 l0_2 a0_3 = some r) ∧ Aside0 (kq ≤ kj1) ∧ Aside0 (w'.heap[zamam]? = some (.cells #[.int .i64 a0_0, .int .i64 a0_1, (.slice A0_2 l0_2.length c0_2), .string a0_3] 30 (0, 0))) ∧ Aside0 (Below w.heap.size w w'))
    case atStart => exact ⟨(0), (by first | rfl | (simp; done) | (simp [*]; done)), H', ⟨Nat.le_refl _⟩, ⟨by (with_reducible repeat (first | refine zamab ?_ _ | refine zamad ?_ | refine zamac ?_ _)); exact zamal.out⟩, ⟨by repeat (first | (with_reducible first | exact HB.out | apply zamah | apply zamaf | apply zamag | refine zamae ?_ zamao.out) | exact HB.out)⟩⟩
    case round =>
     clear H'
     try clear c1
     try clear p2
     try clear c4
     try clear c4b0
     try clear c6
     try clear c6b0
     try clear p6
     try clear c8
     try clear c8b0
     try clear c10
     try clear c10b0
     try clear c12
     try clear c12b0
     try clear c12b1
     try clear c15
     try clear zamau
     try clear zamav
     try clear zamaw
     try clear zamax
     try clear zambc
     try clear zambd
     try clear zambe
     try clear zambf
     try clear zambk
     try clear zambl
     try clear zambm
     try clear zambn
     try clear zambs
     try clear zambt
     try clear zambu
     try clear zambv
     try clear zamca
     try clear zamcb
     try clear zamcc
     try clear zamcd
     try clear zamci
     try clear zamcj
     try clear zamck
     try clear zamcl
     try clear zamay
     try clear zamaz
     try clear zamba
     try clear zambb
     try clear zambg
     try clear zambh
     try clear zambi
     try clear zambj
     try clear zambo
     try clear zambp
     try clear zambq
     try clear zambr
     try clear zambw
     try clear zambx
     try clear zamby
     try clear zambz
     try clear zamce
     try clear zamcf
     try clear zamcg
     try clear zamch
     try clear zamcm
     try clear zamcn
     try clear zamco
     try clear zamcp
     try clear p2
     obtain ⟨zaman, rfl, HA, HK2, zamal, HB⟩ := hrel
     cases gk with
     | zero => exact absurd HA.out (by simp [stowageref07_Check.l0])
     | succ k2 =>
      have H := HA.out
      clear HA
      simp only [stowageref07_Check.l0] at H
      by_cases c16 : zaman < (l0_2.length : Int)
      ·rw [if_pos c16] at H
       have c16b0 : decide (zaman < (l0_2.length : Int)) = true := decide_eq_true c16
       clear c16
       by_cases c17 : 0 ≤ zaman
       ·rw [if_pos c17] at H
        have c17b0 : decide (0 ≤ zaman) = true := decide_eq_true c17
        clear c17
        by_cases c18 : (rd l0_2 zaman) < 0
        ·rw [if_pos c18] at H
         have c18b0 : decide ((rd l0_2 zaman) < 0) = true := decide_eq_true c18
         clear c18
         obtain rfl := Option.some.inj H
         have zamcr : wr.cell? ⟨zamam, 0, none⟩ = some (.int .i64 a0_0) := (zamai zamal.out 0).trans rfl
         have zamcs : wr.cell? ⟨zamam, 1, none⟩ = some (.int .i64 a0_1) := (zamai zamal.out 1).trans rfl
         have zamct : wr.cell? ⟨zamam, 2, none⟩ = some (.slice A0_2 l0_2.length c0_2) := (zamai zamal.out 2).trans rfl
         have zamcu : wr.cell? ⟨zamam, 3, none⟩ = some (.string a0_3) := (zamai zamal.out 3).trans rfl
         have zamcv := zamaj zamal.out 0
         have zamcw := zamaj zamal.out 1
         have zamcx := zamaj zamal.out 2
         have zamcy := zamaj zamal.out 3
         have p119 : 0 ≤ (zaman : Int) := of_decide_eq_true (by first | (with_reducible assumption) | assumption)
         have q119 : zaman < (l0_2.length : Int) := of_decide_eq_true (by first | (with_reducible assumption) | assumption)
         obtain ⟨ad119, e119, hx119_0⟩ := Kd.at_int HR0_2.out zaman p119 q119
         cases e119
         replace hx119_0 := (HB.out.cell (zamaa w _ hx119_0)).trans hx119_0
         replace p119 := eq_true p119
         replace q119 := eq_true q119
         go_wp2
         repeat (go_quiet (fail); try go_wp2)
         go_ret
         exact ⟨by first | rfl | (simp [errW_none, errW_some] <;> rfl) | (simp [*, errW_none, errW_some] <;> rfl), by repeat (first | (with_reducible first | exact HB.out | apply zamah | apply zamaf | apply zamag | refine zamae ?_ zamao.out) | exact HB.out)⟩
        ·rw [if_neg c18] at H
         have c18b0 : decide ((rd l0_2 zaman) < 0) = false := decide_eq_false c18
         clear c18
         by_cases c20 : (rd l0_2 zaman) > 6
         ·rw [if_pos c20] at H
          have c20b0 : decide (6 < (rd l0_2 zaman)) = true := decide_eq_true c20
          clear c20
          obtain rfl := Option.some.inj H
          have zamcz : wr.cell? ⟨zamam, 0, none⟩ = some (.int .i64 a0_0) := (zamai zamal.out 0).trans rfl
          have zamda : wr.cell? ⟨zamam, 1, none⟩ = some (.int .i64 a0_1) := (zamai zamal.out 1).trans rfl
          have zamdb : wr.cell? ⟨zamam, 2, none⟩ = some (.slice A0_2 l0_2.length c0_2) := (zamai zamal.out 2).trans rfl
          have zamdc : wr.cell? ⟨zamam, 3, none⟩ = some (.string a0_3) := (zamai zamal.out 3).trans rfl
          have zamdd := zamaj zamal.out 0
          have zamde := zamaj zamal.out 1
          have zamdf := zamaj zamal.out 2
          have zamdg := zamaj zamal.out 3
          have p119 : 0 ≤ (zaman : Int) := of_decide_eq_true (by first | (with_reducible assumption) | assumption)
          have q119 : zaman < (l0_2.length : Int) := of_decide_eq_true (by first | (with_reducible assumption) | assumption)
          obtain ⟨ad119, e119, hx119_0⟩ := Kd.at_int HR0_2.out zaman p119 q119
          cases e119
          replace hx119_0 := (HB.out.cell (zamaa w _ hx119_0)).trans hx119_0
          replace p119 := eq_true p119
          replace q119 := eq_true q119
          have p120 : 0 ≤ (zaman : Int) := of_decide_eq_true (by first | (with_reducible assumption) | assumption)
          have q120 : zaman < (l0_2.length : Int) := of_decide_eq_true (by first | (with_reducible assumption) | assumption)
          obtain ⟨ad120, e120, hx120_0⟩ := Kd.at_int HR0_2.out zaman p120 q120
          obtain rfl : ad119 = ad120 := (by injection e120)
          replace hx120_0 := (HB.out.cell (zamaa w _ hx120_0)).trans hx120_0
          replace p120 := eq_true p120
          replace q120 := eq_true q120
          go_wp2
          repeat (go_quiet (fail); try go_wp2)
          go_ret
          exact ⟨by first | rfl | (simp [errW_none, errW_some] <;> rfl) | (simp [*, errW_none, errW_some] <;> rfl), by repeat (first | (with_reducible first | exact HB.out | apply zamah | apply zamaf | apply zamag | refine zamae ?_ zamao.out) | exact HB.out)⟩
         ·rw [if_neg c20] at H
          have c20b0 : decide (6 < (rd l0_2 zaman)) = false := decide_eq_false c20
          clear c20
          by_cases c22 : zaman > 0
          ·rw [if_pos c22] at H
           have c22b0 : decide (0 < zaman) = true := decide_eq_true c22
           clear c22
           obtain ⟨ji23, hji23⟩ : ∃ j_ : Int, (wrap64 (zaman - 1)) = j_ := ⟨_, rfl⟩
           replace H : (if 0 ≤ (ji23) then (if (ji23) < (l0_2.length : Int) then (if (rd l0_2 zaman) ≤ (rd l0_2 (ji23)) then (some 1) else (stowageref07_Check.l0 k2 (wrap64 (zaman + 1)) a0_0 a0_1 l0_2 a0_3)) else (none)) else (none)) = some r := by first | (rw [hji23] at H; exact H) | (simp only [hji23] at H ⊢; exact H)
           have hji23w : (IntKind.i64.wrap (zaman - 1)) = ji23 := (i64_w _).trans hji23
           by_cases c24 : 0 ≤ (ji23)
           ·rw [if_pos c24] at H
            have c24b0 : decide (0 ≤ (ji23)) = true := decide_eq_true c24
            clear c24
            by_cases c25 : (ji23) < (l0_2.length : Int)
            ·rw [if_pos c25] at H
             have c25b0 : decide ((ji23) < (l0_2.length : Int)) = true := decide_eq_true c25
             clear c25
             by_cases c26 : (rd l0_2 zaman) ≤ (rd l0_2 (ji23))
             ·rw [if_pos c26] at H
              have c26b0 : decide ((rd l0_2 zaman) ≤ (rd l0_2 (ji23))) = true := decide_eq_true c26
              clear c26
              obtain rfl := Option.some.inj H
              have zamdh : wr.cell? ⟨zamam, 0, none⟩ = some (.int .i64 a0_0) := (zamai zamal.out 0).trans rfl
              have zamdi : wr.cell? ⟨zamam, 1, none⟩ = some (.int .i64 a0_1) := (zamai zamal.out 1).trans rfl
              have zamdj : wr.cell? ⟨zamam, 2, none⟩ = some (.slice A0_2 l0_2.length c0_2) := (zamai zamal.out 2).trans rfl
              have zamdk : wr.cell? ⟨zamam, 3, none⟩ = some (.string a0_3) := (zamai zamal.out 3).trans rfl
              have zamdl := zamaj zamal.out 0
              have zamdm := zamaj zamal.out 1
              have zamdn := zamaj zamal.out 2
              have zamdo := zamaj zamal.out 3
              have p119 : 0 ≤ (zaman : Int) := of_decide_eq_true (by first | (with_reducible assumption) | assumption)
              have q119 : zaman < (l0_2.length : Int) := of_decide_eq_true (by first | (with_reducible assumption) | assumption)
              obtain ⟨ad119, e119, hx119_0⟩ := Kd.at_int HR0_2.out zaman p119 q119
              cases e119
              replace hx119_0 := (HB.out.cell (zamaa w _ hx119_0)).trans hx119_0
              replace p119 := eq_true p119
              replace q119 := eq_true q119
              have p120 : 0 ≤ (zaman : Int) := of_decide_eq_true (by first | (with_reducible assumption) | assumption)
              have q120 : zaman < (l0_2.length : Int) := of_decide_eq_true (by first | (with_reducible assumption) | assumption)
              obtain ⟨ad120, e120, hx120_0⟩ := Kd.at_int HR0_2.out zaman p120 q120
              obtain rfl : ad119 = ad120 := (by injection e120)
              replace hx120_0 := (HB.out.cell (zamaa w _ hx120_0)).trans hx120_0
              replace p120 := eq_true p120
              replace q120 := eq_true q120
              have p121 : 0 ≤ (zaman : Int) := of_decide_eq_true (by first | (with_reducible assumption) | assumption)
              have q121 : zaman < (l0_2.length : Int) := of_decide_eq_true (by first | (with_reducible assumption) | assumption)
              obtain ⟨ad121, e121, hx121_0⟩ := Kd.at_int HR0_2.out zaman p121 q121
              obtain rfl : ad119 = ad121 := (by injection e121)
              replace hx121_0 := (HB.out.cell (zamaa w _ hx121_0)).trans hx121_0
              replace p121 := eq_true p121
              replace q121 := eq_true q121
              have p122 : 0 ≤ ((ji23) : Int) := of_decide_eq_true (by first | (with_reducible assumption) | assumption)
              have q122 : (ji23) < (l0_2.length : Int) := of_decide_eq_true (by first | (with_reducible assumption) | assumption)
              obtain ⟨ad122, e122, hx122_0⟩ := Kd.at_int HR0_2.out (ji23) p122 q122
              obtain rfl : ad119 = ad122 := (by injection e122)
              replace hx122_0 := (HB.out.cell (zamaa w _ hx122_0)).trans hx122_0
              replace p122 := eq_true p122
              replace q122 := eq_true q122
              go_wp2
              repeat (go_quiet (fail); try go_wp2)
              go_ret
              exact ⟨by first | rfl | (simp [errW_none, errW_some] <;> rfl) | (simp only [← hji23]; first | rfl | (simp [errW_none, errW_some] <;> rfl)) | (simp [*, errW_none, errW_some] <;> rfl), by repeat (first | (with_reducible first | exact HB.out | apply zamah | apply zamaf | apply zamag | refine zamae ?_ zamao.out) | exact HB.out)⟩
             ·rw [if_neg c26] at H
              have c26b0 : decide ((rd l0_2 zaman) ≤ (rd l0_2 (ji23))) = false := decide_eq_false c26
              clear c26
              have H' := zamak H
              clear H
              have zamdp : wr.cell? ⟨zamam, 0, none⟩ = some (.int .i64 a0_0) := (zamai zamal.out 0).trans rfl
              have zamdq : wr.cell? ⟨zamam, 1, none⟩ = some (.int .i64 a0_1) := (zamai zamal.out 1).trans rfl
              have zamdr : wr.cell? ⟨zamam, 2, none⟩ = some (.slice A0_2 l0_2.length c0_2) := (zamai zamal.out 2).trans rfl
              have zamds : wr.cell? ⟨zamam, 3, none⟩ = some (.string a0_3) := (zamai zamal.out 3).trans rfl
              have zamdt := zamaj zamal.out 0
              have zamdu := zamaj zamal.out 1
              have zamdv := zamaj zamal.out 2
              have zamdw := zamaj zamal.out 3
              have p119 : 0 ≤ (zaman : Int) := of_decide_eq_true (by first | (with_reducible assumption) | assumption)
              have q119 : zaman < (l0_2.length : Int) := of_decide_eq_true (by first | (with_reducible assumption) | assumption)
              obtain ⟨ad119, e119, hx119_0⟩ := Kd.at_int HR0_2.out zaman p119 q119
              cases e119
              replace hx119_0 := (HB.out.cell (zamaa w _ hx119_0)).trans hx119_0
              replace p119 := eq_true p119
              replace q119 := eq_true q119
              have p120 : 0 ≤ (zaman : Int) := of_decide_eq_true (by first | (with_reducible assumption) | assumption)
              have q120 : zaman < (l0_2.length : Int) := of_decide_eq_true (by first | (with_reducible assumption) | assumption)
              obtain ⟨ad120, e120, hx120_0⟩ := Kd.at_int HR0_2.out zaman p120 q120
              obtain rfl : ad119 = ad120 := (by injection e120)
              replace hx120_0 := (HB.out.cell (zamaa w _ hx120_0)).trans hx120_0
              replace p120 := eq_true p120
              replace q120 := eq_true q120
              have p121 : 0 ≤ (zaman : Int) := of_decide_eq_true (by first | (with_reducible assumption) | assumption)
              have q121 : zaman < (l0_2.length : Int) := of_decide_eq_true (by first | (with_reducible assumption) | assumption)
              obtain ⟨ad121, e121, hx121_0⟩ := Kd.at_int HR0_2.out zaman p121 q121
              obtain rfl : ad119 = ad121 := (by injection e121)
              replace hx121_0 := (HB.out.cell (zamaa w _ hx121_0)).trans hx121_0
              replace p121 := eq_true p121
              replace q121 := eq_true q121
              have p122 : 0 ≤ ((ji23) : Int) := of_decide_eq_true (by first | (with_reducible assumption) | assumption)
              have q122 : (ji23) < (l0_2.length : Int) := of_decide_eq_true (by first | (with_reducible assumption) | assumption)
              obtain ⟨ad122, e122, hx122_0⟩ := Kd.at_int HR0_2.out (ji23) p122 q122
              obtain rfl : ad119 = ad122 := (by injection e122)
              replace hx122_0 := (HB.out.cell (zamaa w _ hx122_0)).trans hx122_0
              replace p122 := eq_true p122
              replace q122 := eq_true q122
              go_wp2
              repeat (go_quiet (fail); try go_wp2)
              go_roundg k2
              case measure => have := HJ1.out; have := HK2.out; omega
              case rel => exact ⟨(wrap64 (zaman + 1)), (by first | rfl | (simp; done) | (simp [*]; done)), H', ⟨by have := HJ1.out; have := HK2.out; omega⟩, ⟨by (with_reducible repeat (first | refine zamab ?_ _ | refine zamad ?_ | refine zamac ?_ _)); exact zamal.out⟩, ⟨by repeat (first | (with_reducible first | exact HB.out | apply zamah | apply zamaf | apply zamag | refine zamae ?_ zamao.out) | exact HB.out)⟩⟩
            ·rw [if_neg c25] at H
             exact absurd H (by simp)
           ·rw [if_neg c24] at H
            exact absurd H (by simp)
          ·rw [if_neg c22] at H
           have c22b0 : decide (0 < zaman) = false := decide_eq_false c22
           clear c22
           have H' := zamak H
           clear H
           have zamdx : wr.cell? ⟨zamam, 0, none⟩ = some (.int .i64 a0_0) := (zamai zamal.out 0).trans rfl
           have zamdy : wr.cell? ⟨zamam, 1, none⟩ = some (.int .i64 a0_1) := (zamai zamal.out 1).trans rfl
           have zamdz : wr.cell? ⟨zamam, 2, none⟩ = some (.slice A0_2 l0_2.length c0_2) := (zamai zamal.out 2).trans rfl
           have zamea : wr.cell? ⟨zamam, 3, none⟩ = some (.string a0_3) := (zamai zamal.out 3).trans rfl
           have zameb := zamaj zamal.out 0
           have zamec := zamaj zamal.out 1
           have zamed := zamaj zamal.out 2
           have zamee := zamaj zamal.out 3
           have p119 : 0 ≤ (zaman : Int) := of_decide_eq_true (by first | (with_reducible assumption) | assumption)
           have q119 : zaman < (l0_2.length : Int) := of_decide_eq_true (by first | (with_reducible assumption) | assumption)
           obtain ⟨ad119, e119, hx119_0⟩ := Kd.at_int HR0_2.out zaman p119 q119
           cases e119
           replace hx119_0 := (HB.out.cell (zamaa w _ hx119_0)).trans hx119_0
           replace p119 := eq_true p119
           replace q119 := eq_true q119
           have p120 : 0 ≤ (zaman : Int) := of_decide_eq_true (by first | (with_reducible assumption) | assumption)
           have q120 : zaman < (l0_2.length : Int) := of_decide_eq_true (by first | (with_reducible assumption) | assumption)
           obtain ⟨ad120, e120, hx120_0⟩ := Kd.at_int HR0_2.out zaman p120 q120
           obtain rfl : ad119 = ad120 := (by injection e120)
           replace hx120_0 := (HB.out.cell (zamaa w _ hx120_0)).trans hx120_0
           replace p120 := eq_true p120
           replace q120 := eq_true q120
           go_wp2
           repeat (go_quiet (fail); try go_wp2)
           go_roundg k2
           case measure => have := HJ1.out; have := HK2.out; omega
           case rel => exact ⟨(wrap64 (zaman + 1)), (by first | rfl | (simp; done) | (simp [*]; done)), H', ⟨by have := HJ1.out; have := HK2.out; omega⟩, ⟨by (with_reducible repeat (first | refine zamab ?_ _ | refine zamad ?_ | refine zamac ?_ _)); exact zamal.out⟩, ⟨by repeat (first | (with_reducible first | exact HB.out | apply zamah | apply zamaf | apply zamag | refine zamae ?_ zamao.out) | exact HB.out)⟩⟩
       ·rw [if_neg c17] at H
        exact absurd H (by simp)
      ·rw [if_neg c16] at H
       have c16b0 : decide (zaman < (l0_2.length : Int)) = false := decide_eq_false c16
       clear c16
       by_cases c30 : (a0_3.size : Int) > 131072
       ·rw [if_pos c30] at H
        have c30b0 : decide (131072 < (a0_3.size : Int)) = true := decide_eq_true c30
        have c30b1 : decide (131072 < a0_3.size) = true := decide_eq_true (by omega)
        clear c30
        obtain rfl := Option.some.inj H
        have zamef : wr.cell? ⟨zamam, 0, none⟩ = some (.int .i64 a0_0) := (zamai zamal.out 0).trans rfl
        have zameg : wr.cell? ⟨zamam, 1, none⟩ = some (.int .i64 a0_1) := (zamai zamal.out 1).trans rfl
        have zameh : wr.cell? ⟨zamam, 2, none⟩ = some (.slice A0_2 l0_2.length c0_2) := (zamai zamal.out 2).trans rfl
        have zamei : wr.cell? ⟨zamam, 3, none⟩ = some (.string a0_3) := (zamai zamal.out 3).trans rfl
        have zamej := zamaj zamal.out 0
        have zamek := zamaj zamal.out 1
        have zamel := zamaj zamal.out 2
        have zamem := zamaj zamal.out 3
        go_wp2
        repeat (go_quiet (fail); try go_wp2)
        go_ret
        exact ⟨by first | rfl | (simp [errW_none, errW_some] <;> rfl) | (simp [*, errW_none, errW_some] <;> rfl), by repeat (first | (with_reducible first | exact HB.out | apply zamah | apply zamaf | apply zamag | refine zamae ?_ zamao.out) | exact HB.out)⟩
       ·rw [if_neg c30] at H
        have c30b0 : decide (131072 < (a0_3.size : Int)) = false := decide_eq_false c30
        have c30b1 : decide (131072 < a0_3.size) = false := decide_eq_false (by omega)
        clear c30
        obtain rfl := Option.some.inj H
        have zamen : wr.cell? ⟨zamam, 0, none⟩ = some (.int .i64 a0_0) := (zamai zamal.out 0).trans rfl
        have zameo : wr.cell? ⟨zamam, 1, none⟩ = some (.int .i64 a0_1) := (zamai zamal.out 1).trans rfl
        have zamep : wr.cell? ⟨zamam, 2, none⟩ = some (.slice A0_2 l0_2.length c0_2) := (zamai zamal.out 2).trans rfl
        have zameq : wr.cell? ⟨zamam, 3, none⟩ = some (.string a0_3) := (zamai zamal.out 3).trans rfl
        have zamer := zamaj zamal.out 0
        have zames := zamaj zamal.out 1
        have zamet := zamaj zamal.out 2
        have zameu := zamaj zamal.out 3
        go_wp2
        repeat (go_quiet (fail); try go_wp2)
        go_ret
        exact ⟨by first | rfl | (simp [errW_none, errW_some] <;> rfl) | (simp [*, errW_none, errW_some] <;> rfl), by repeat (first | (with_reducible first | exact HB.out | apply zamah | apply zamaf | apply zamag | refine zamae ?_ zamao.out) | exact HB.out)⟩
end Go.Proofs.Ythjfofgcikfepaa.Q
