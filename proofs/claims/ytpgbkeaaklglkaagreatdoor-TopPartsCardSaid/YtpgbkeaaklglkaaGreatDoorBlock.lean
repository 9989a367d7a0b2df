
/- digest.block: a call tells a plain function of the state and of the bytes, wherever the table of rounds reads as it was laid. -/
import Derived.Test.YtpgbkeaaklglkaaGreatDoorBlockD
namespace Go.Proofs.YtpgbkeaaklglkaaGreatDoor.Q
open Go.RowKit Go.Proofs.YtpgbkeaaklglkaaGreatDoorW.PrintWords Go.Proofs.YtpgbkeaaklglkaaGreatDoorW.PrintLast Go.Proofs.YtpgbkeaaklglkaaGreatDoorW.PrintMore
set_option linter.unusedVariables false
set_option linter.unusedSimpArgs false
set_option maxHeartbeats 10000000
set_option maxRecDepth 100000
theorem below_cell {w w' : World} {a : Addr} {v : Value} (h : w.cell? a = some v) (hb : Below w.heap.size w w') : w'.cell? a = some v := (hb.cell (World.block_lt_of_cell? w _ h)).trans h
theorem digest_block.calls (s0 s1 s2 s3 s4 s5 s6 s7 : Int) (b : List Int) (ad : Addr) (c1 : Nat) (w : World) (hb : b.length = 64) (hr1 : ∀ i, i < 64 → w.cell? (ad.add i) = some (.int .u8 (b.getD i 0))) (hc1 : 64 ≤ c1) (hG : InG w) :
    Calls Tryz.prog 55 #[.agg (arr [s0, s1, s2, s3, s4, s5, s6, s7]), .slice (some ad) 64 c1] w fun e w' => e = .returned (.agg (arr (blockF [s0, s1, s2, s3, s4, s5, s6, s7] b))) ∧ Below w.heap.size w w' := by
  have hu43 := Tryz.underlying97
  have hu56 := Tryz.underlying124
  have HR1 := Aside0.mk hr1
  have HL := Aside0.mk hb
  have HC1 := Aside0.mk hc1
  have HG := Aside0.mk hG
  clear hr1 hc1 hb hG
  have hnow : Aside0 (IsArr (w.alloc (.cells (arr [s0, s1, s2, s3, s4, s5, s6, s7]) 97)) w.heap.size 97 [s0, s1, s2, s3, s4, s5, s6, s7]) := ⟨heap_alloc_new w _⟩
  go_enter Tryz.func55, Tryz.ntmps55
  go_wp2_with (first
    | ((with_reducible refine gate_dst (N := 2) rfl ?_); refine box_event rfl (N := 2) rfl (cs := arr [s0, s1, s2, s3, s4, s5, s6, s7]) (t := 97) ?hr ?_; (case hr => first | (go_simp; done) | (go_simp; rfl)); intro g2 hg w1 hk2 hB1
       have S2 : Aside0 (IsArr w1 g2 97 [s0, s1, s2, s3, s4, s5, s6, s7]) := ⟨hk2⟩
       have G2 : Aside0 (w.heap.size ≤ g2) := ⟨by omega⟩
       have B1 := Aside0.mk hB1
       clear hk2 hB1 hg)
    | ((with_reducible refine gate_dst (N := 4) rfl ?_); refine box_event rfl (N := 4) rfl (cs := arr z8) (t := 97) ?hr ?_; (case hr => first | (go_simp; done) | (go_simp; rfl)); intro g4 hg w2 hk4 hB2
       have S4 : Aside0 (IsArr w2 g4 97 z8) := ⟨hk4⟩
       have G4 : Aside0 (w.heap.size ≤ g4) := ⟨by have := B1.out.size; omega⟩
       have B2 : Aside0 (Below w.heap.size w w2) := ⟨below_step B1.out hB2⟩
       have S2' : Aside0 (IsArr w2 g2 97 [s0, s1, s2, s3, s4, s5, s6, s7]) := ⟨S2.out.below hB2⟩
       have N24 : Aside0 (g2 ≠ g4) := ⟨by have := S2.out.lt; omega⟩
       clear S2 hk4 hB2 hg)
    | ((with_reducible refine gate_dst (N := 5) rfl ?_); refine box_event rfl (N := 5) rfl (cs := zeros124) (t := 124) (run_alloc124 _ _ _ rfl) ?_; intro g5 hg w3 hk5 hB3
       have S5 : Aside0 (IsArr w3 g5 124 z64) := ⟨by rw [zeros56_arr] at hk5; exact hk5⟩
       have G5 : Aside0 (w.heap.size ≤ g5) := ⟨by have := B2.out.size; omega⟩
       have B3 : Aside0 (Below w.heap.size w w3) := ⟨below_step B2.out hB3⟩
       have T2 : Aside0 (IsArr w3 g2 97 [s0, s1, s2, s3, s4, s5, s6, s7]) := ⟨S2'.out.below hB3⟩
       have T4 : Aside0 (IsArr w3 g4 97 z8) := ⟨S4.out.below hB3⟩
       have N25 : Aside0 (g2 ≠ g5) := ⟨by have := S2'.out.lt; omega⟩
       have N45 : Aside0 (g4 ≠ g5) := ⟨by have := S4.out.lt; omega⟩
       clear S2' S4 hk5 hB3 hg B1 B2))
  go_loopg [17] 17 (fun kq v17 w' => ∃ n : Nat, v17 = .int .i64 (n : Int) ∧ Aside0 (n + kq = 17 ∧ n ≤ 16) ∧ Aside0 (IsArr w' g2 97 [s0, s1, s2, s3, s4, s5, s6, s7]) ∧ Aside0 (IsArr w' g4 97 z8) ∧ Aside0 (IsArr w' g5 124 (sched b n)) ∧ Aside0 (Below w.heap.size w w'))
  case atStart => exact ⟨0, rfl, ⟨by omega, by omega⟩, T2, T4, S5, B3⟩
  case round =>
    clear T2 T4 S5 B3
    obtain ⟨n, rfl, HN, T2, T4, T5, B3⟩ := hrel
    cases gk with
    | zero => have := HN.out; omega
    | succ k1 =>
      by_cases hn : n < 16
      · have hlt : ((n : Int) < 16) = True := eq_true (by omega)
        obtain ⟨j0, h0⟩ : ∃ j : Nat, j = 4 * n := ⟨_, rfl⟩
        obtain ⟨j1, h1⟩ : ∃ j : Nat, j = j0 + 1 := ⟨_, rfl⟩
        obtain ⟨j2, h2⟩ : ∃ j : Nat, j = j0 + 2 := ⟨_, rfl⟩
        obtain ⟨j3, h3⟩ : ∃ j : Nat, j = j0 + 3 := ⟨_, rfl⟩
        have e0 : IntKind.i64.wrap (4 * (n : Int)) = (j0 : Int) := (i64_w _).trans ((IntWalk.wrap64_in _ (by omega)).trans (by omega))
        have e1 : IntKind.i64.wrap ((j0 : Int) + 1) = (j1 : Int) := (i64_w _).trans ((IntWalk.wrap64_in _ (by omega)).trans (by omega))
        have e2 : IntKind.i64.wrap ((j0 : Int) + 2) = (j2 : Int) := (i64_w _).trans ((IntWalk.wrap64_in _ (by omega)).trans (by omega))
        have e3 : IntKind.i64.wrap ((j0 : Int) + 3) = (j3 : Int) := (i64_w _).trans ((IntWalk.wrap64_in _ (by omega)).trans (by omega))
        have c0 := below_cell (HR1.out j0 (by omega)) B3.out
        have c1 := below_cell (HR1.out j1 (by omega)) B3.out
        have c2 := below_cell (HR1.out j2 (by omega)) B3.out
        have c3 := below_cell (HR1.out j3 (by omega)) B3.out
        have p0 : ((j0 : Int) < 64) = True := eq_true (by omega)
        have p1 : ((j1 : Int) < 64) = True := eq_true (by omega)
        have p2 : ((j2 : Int) < 64) = True := eq_true (by omega)
        have p3 : ((j3 : Int) < 64) = True := eq_true (by omega)
        have pn : ((n : Int) < 64) = True := eq_true (by omega)
        have cw := T5.out.cell (n := n) (by rw [sched_len]; omega)
        have fw := T5.out.frozen n
        have J : Aside0 (j0 = 4 * n ∧ j1 = j0 + 1 ∧ j2 = j0 + 2 ∧ j3 = j0 + 3) := ⟨h0, h1, h2, h3⟩
        clear h0 h1 h2 h3
        obtain ⟨x0, y0⟩ : ∃ x : Int, x = b.getD j0 0 := ⟨_, rfl⟩
        obtain ⟨x1, y1⟩ : ∃ x : Int, x = b.getD j1 0 := ⟨_, rfl⟩
        obtain ⟨x2, y2⟩ : ∃ x : Int, x = b.getD j2 0 := ⟨_, rfl⟩
        obtain ⟨x3, y3⟩ : ∃ x : Int, x = b.getD j3 0 := ⟨_, rfl⟩
        rw [← y0] at c0
        rw [← y1] at c1
        rw [← y2] at c2
        rw [← y3] at c3
        have Y0 := Aside0.mk y0
        have Y1 := Aside0.mk y1
        have Y2 := Aside0.mk y2
        have Y3 := Aside0.mk y3
        clear y0 y1 y2 y3
        go_wp2_with (fail)
        refine start_ (n := 36) (S := fun w' => w'.cell? (ad.add j0) = some (.int .u8 x0) ∧ w'.cell? (ad.add j1) = some (.int .u8 x1) ∧ w'.cell? (ad.add j2) = some (.int .u8 x2) ∧ w'.cell? (ad.add j3) = some (.int .u8 x3)) (ds := [35]) #[false, false, false, false, false, false, false, false, false, false, false, false, false, false, false, false, false, false, false, false, false, false, false, false, false, false, false, false, false, false, false, false, false, false, false, false] (by kernel_rfl) rfl rfl ⟨c0, c1, c2, c3⟩ (fun hHeld => ?_)
        refine pz 0 20 ?_
        refine pz 1 21 ?_
        refine pz 2 22 ?_
        refine pz 3 23 ?_
        refine pz 4 24 ?_
        refine tz 5 25 ?_
        refine pz 6 26 ?_
        refine pz 7 27 ?_
        refine pz 8 28 ?_
        refine pz 9 29 ?_
        refine pz 10 30 ?_
        refine pz 11 31 ?_
        refine pz 12 32 ?_
        refine tz 13 33 ?_
        refine pz 14 34 ?_
        refine pz 15 35 ?_
        refine pz 16 36 ?_
        refine pz 17 37 ?_
        refine pz 18 38 ?_
        refine pz 19 39 ?_
        refine pz 20 40 ?_
        refine pz 21 41 ?_
        refine tz 22 42 ?_
        refine pz 23 43 ?_
        refine pz 24 44 ?_
        refine pz 25 45 ?_
        refine pz 26 46 ?_
        refine pz 27 47 ?_
        refine pz 28 48 ?_
        refine pz 29 49 ?_
        refine pz 30 50 ?_
        refine tz 31 51 ?_
        refine pz 32 52 ?_
        refine pz 33 53 ?_
        refine pz 34 54 ?_
        refine last_ (i := 35) (N := none) #[true, true, true, true, true, true, true, true, true, true, true, true, true, true, true, true, true, true, true, true, true, true, true, true, true, true, true, true, true, true, true, true, true, true, true, true] rfl rfl (by kernel_rfl) (by decide) (fun K hK => ?_)
        refine skip_ (w1 := ?_) (by rfl) rfl ?_ ?_
        rotate_left
        · go_simp
          rfl
        refine hK.out _ _ ?_
        clear hK K
        refine done_ (by kernel_rfl) ?_
        go_wp2
        go_roundg k1
        case measure => have := HN.out; omega
        case rel => exact ⟨n + 1, by first | rfl | simp, ⟨by have := HN.out; omega, by omega⟩, ⟨T2.out.far N25.out _⟩, ⟨T4.out.far N45.out _⟩, ⟨by
            rw [sched]
            rw [show wv b (sched b n) n = sch1 x0 x1 x2 x3 by
              rw [wv, if_pos hn, Y0.out, Y1.out, Y2.out, Y3.out]
              obtain ⟨q0, q1, q2, q3⟩ := J.out
              subst q0 q1 q2 q3
              rfl]
            exact T5.out.set n _⟩, ⟨below_drew1 (below_set B3.out G5.out)⟩⟩
      · have hlt : ((n : Int) < 16) = False := eq_false (by omega)
        obtain rfl : n = 16 := by have := HN.out; omega
        go_wp2_with (fail)
        go_loopg [7] 49 (fun kq v7 w' => ∃ m : Nat, v7 = .int .i64 (m : Int) ∧ Aside0 (m + kq = 65 ∧ 16 ≤ m ∧ m ≤ 64) ∧ Aside0 (IsArr w' g2 97 [s0, s1, s2, s3, s4, s5, s6, s7]) ∧ Aside0 (IsArr w' g4 97 z8) ∧ Aside0 (IsArr w' g5 124 (sched b m)) ∧ Aside0 (Below w.heap.size w w'))
        case atStart => exact ⟨16, rfl, ⟨by omega, by omega, by omega⟩, T2, T4, T5, B3⟩
        case round =>
          clear T2 T4 T5 B3
          obtain ⟨m, rfl, HM, T2, T4, T5, B3⟩ := hrel
          have hm16 := HM.out.2.1
          cases gk with
          | zero => have := HM.out; omega
          | succ k1 =>
            by_cases hm : m < 64
            · have hlt2 : ((m : Int) < 64) = True := eq_true (by omega)
              obtain ⟨j16, a16⟩ : ∃ j : Nat, j = m - 16 := ⟨_, rfl⟩
              obtain ⟨j15, a15⟩ : ∃ j : Nat, j = m - 15 := ⟨_, rfl⟩
              obtain ⟨j7, a7⟩ : ∃ j : Nat, j = m - 7 := ⟨_, rfl⟩
              obtain ⟨j2, a2⟩ : ∃ j : Nat, j = m - 2 := ⟨_, rfl⟩
              have e16 : IntKind.i64.wrap ((m : Int) - 16) = (j16 : Int) := (i64_w _).trans ((IntWalk.wrap64_in _ (by omega)).trans (by omega))
              have e15 : IntKind.i64.wrap ((m : Int) - 15) = (j15 : Int) := (i64_w _).trans ((IntWalk.wrap64_in _ (by omega)).trans (by omega))
              have e7 : IntKind.i64.wrap ((m : Int) - 7) = (j7 : Int) := (i64_w _).trans ((IntWalk.wrap64_in _ (by omega)).trans (by omega))
              have e2 : IntKind.i64.wrap ((m : Int) - 2) = (j2 : Int) := (i64_w _).trans ((IntWalk.wrap64_in _ (by omega)).trans (by omega))
              have c16 := T5.out.cell (n := j16) (by rw [sched_len]; omega)
              have c15 := T5.out.cell (n := j15) (by rw [sched_len]; omega)
              have c7 := T5.out.cell (n := j7) (by rw [sched_len]; omega)
              have c2 := T5.out.cell (n := j2) (by rw [sched_len]; omega)
              have p16 : ((j16 : Int) < 64) = True := eq_true (by omega)
              have p15 : ((j15 : Int) < 64) = True := eq_true (by omega)
              have p7 : ((j7 : Int) < 64) = True := eq_true (by omega)
              have p2 : ((j2 : Int) < 64) = True := eq_true (by omega)
              have cw := T5.out.cell (n := m) (by rw [sched_len]; omega)
              have fw := T5.out.frozen m
              have J : Aside0 (j16 = m - 16 ∧ j15 = m - 15 ∧ j7 = m - 7 ∧ j2 = m - 2) := ⟨a16, a15, a7, a2⟩
              clear a16 a15 a7 a2
              obtain ⟨x16, y16⟩ : ∃ x : Int, x = (sched b m).getD j16 0 := ⟨_, rfl⟩
              obtain ⟨x15, y15⟩ : ∃ x : Int, x = (sched b m).getD j15 0 := ⟨_, rfl⟩
              obtain ⟨x7, y7⟩ : ∃ x : Int, x = (sched b m).getD j7 0 := ⟨_, rfl⟩
              obtain ⟨x2, y2⟩ : ∃ x : Int, x = (sched b m).getD j2 0 := ⟨_, rfl⟩
              rw [← y16] at c16
              rw [← y15] at c15
              rw [← y7] at c7
              rw [← y2] at c2
              have Y16 := Aside0.mk y16
              have Y15 := Aside0.mk y15
              have Y7 := Aside0.mk y7
              have Y2 := Aside0.mk y2
              clear y16 y15 y7 y2
              go_wp2_with (fail)
              go_quiet (fail)
              go_wp2_with (fail)
              refine start_ (n := 30) (S := fun w' => w'.cell? ⟨g5, j16, none⟩ = some (.int .u32 x16) ∧ w'.cell? ⟨g5, j7, none⟩ = some (.int .u32 x7)) (ds := [29]) #[false, false, false, false, false, false, false, false, false, false, false, false, false, false, false, false, false, false, false, false, false, false, false, false, false, false, false, false, false, false] (by kernel_rfl) rfl rfl ⟨c16, c7⟩ (fun hHeld => ?_)
              refine pz 0 68 ?_
              refine pz 1 69 ?_
              refine pz 2 70 ?_
              refine pz 3 71 ?_
              refine tz 4 72 ?_
              refine pz 5 73 ?_
              refine pz 6 74 ?_
              refine pz 7 75 ?_
              refine tz 8 76 ?_
              refine pz 9 77 ?_
              refine pz 10 78 ?_
              refine pz 12 80 ?_
              refine pz 15 83 ?_
              refine pz 16 84 ?_
              refine pz 19 87 ?_
              refine pz 21 89 ?_
              refine pz 24 92 ?_
              refine pz 25 93 ?_
              refine one_ (i := 11) (N := some 79) #[true, true, true, true, true, true, true, true, true, true, true, true, true, false, false, true, true, false, false, true, false, true, false, false, true, true, false, false, false, false] rfl rfl (by kernel_rfl) (by decide) (fun K hK => ?_)
              refine call_ 73 #[.int .u32 x15, .int .i64 (-7)] (by rfl) rfl (by first | (go_simp; done) | (go_simp; rfl)) ?_
              refine (bits_RotateLeft32.calls x15 (-7) _ _ (rot7 x15)).mono ?_
              rintro e w6 ⟨rfl, ⟨nd, rfl⟩⟩
              refine ⟨_, rfl, hK.out _ _ hHeld (fun hHeld => ?_)⟩
              clear hK K
              refine nz 79 ?_
              refine one_ (i := 13) (N := some 81) #[true, true, true, true, true, true, true, true, true, true, true, true, true, true, false, true, true, false, false, true, false, true, false, false, true, true, false, false, false, false] rfl rfl (by kernel_rfl) (by decide) (fun K hK => ?_)
              refine call_ 73 #[.int .u32 x15, .int .i64 (-18)] (by rfl) rfl (by first | (go_simp; done) | (go_simp; rfl)) ?_
              refine (bits_RotateLeft32.calls x15 (-18) _ _ (rot18 x15)).mono ?_
              rintro e w6 ⟨rfl, ⟨nd, rfl⟩⟩
              refine ⟨_, rfl, hK.out _ _ hHeld (fun hHeld => ?_)⟩
              clear hK K
              refine nz 81 ?_
              refine pz 14 82 ?_
              refine pz 17 85 ?_
              refine pz 18 86 ?_
              refine one_ (i := 20) (N := some 88) #[true, true, true, true, true, true, true, true, true, true, true, true, true, true, true, true, true, true, true, true, true, true, false, false, true, true, false, false, false, false] rfl rfl (by kernel_rfl) (by decide) (fun K hK => ?_)
              refine call_ 73 #[.int .u32 x2, .int .i64 (-17)] (by rfl) rfl (by first | (go_simp; done) | (go_simp; rfl)) ?_
              refine (bits_RotateLeft32.calls x2 (-17) _ _ (rot17 x2)).mono ?_
              rintro e w6 ⟨rfl, ⟨nd, rfl⟩⟩
              refine ⟨_, rfl, hK.out _ _ hHeld (fun hHeld => ?_)⟩
              clear hK K
              refine nz 88 ?_
              refine one_ (i := 22) (N := some 90) #[true, true, true, true, true, true, true, true, true, true, true, true, true, true, true, true, true, true, true, true, true, true, true, false, true, true, false, false, false, false] rfl rfl (by kernel_rfl) (by decide) (fun K hK => ?_)
              refine call_ 73 #[.int .u32 x2, .int .i64 (-19)] (by rfl) rfl (by first | (go_simp; done) | (go_simp; rfl)) ?_
              refine (bits_RotateLeft32.calls x2 (-19) _ _ (rot19 x2)).mono ?_
              rintro e w6 ⟨rfl, ⟨nd, rfl⟩⟩
              refine ⟨_, rfl, hK.out _ _ hHeld (fun hHeld => ?_)⟩
              clear hK K
              refine nz 90 ?_
              refine pz 23 91 ?_
              refine pz 26 94 ?_
              refine pz 27 95 ?_
              refine pz 28 96 ?_
              refine last_ (i := 29) (N := none) #[true, true, true, true, true, true, true, true, true, true, true, true, true, true, true, true, true, true, true, true, true, true, true, true, true, true, true, true, true, true] rfl rfl (by kernel_rfl) (by decide) (fun K hK => ?_)
              refine skip_ (w1 := ?_) (by rfl) rfl ?_ ?_
              rotate_left
              · go_simp
                rfl
              refine hK.out _ _ ?_
              clear hK K
              refine done_ (by kernel_rfl) ?_
              go_wp2
              go_roundg k1
              case measure => have := HM.out; omega
              case rel => exact ⟨m + 1, by first | rfl | simp, ⟨by have := HM.out; omega, by omega, by omega⟩, ⟨T2.out.far N25.out _⟩, ⟨T4.out.far N45.out _⟩, ⟨by
                  rw [sched]
                  rw [show wv b (sched b m) m = sch2 x16 x7 x15 x2 by
                    rw [wv, if_neg (by omega), Y16.out, Y15.out, Y7.out, Y2.out]
                    obtain ⟨q0, q1, q2, q3⟩ := J.out
                    subst q0 q1 q2 q3
                    rfl]
                  exact (T5.out.drewN _).set m _⟩, ⟨below_set (pw_below_drewN B3.out _) G5.out⟩⟩
            · have hlt2 : ((m : Int) < 64) = False := eq_false (by omega)
              obtain rfl : m = 64 := by have := HM.out; omega
              go_upto_region 12 with (fail)
              have szS := sizes97
              go_wp2_with (first
                | ((with_reducible refine gate_dst (N := 97) rfl ?_); refine wpList_load_row rfl 97 (.tmp 2) rfl g2 rfl 97 _ (0, 0) _ T2.out hu43 rfl sizes97 ?_)
                | ((with_reducible refine gate_dst (N := 10) rfl ?_); refine box_event rfl (N := 10) rfl (cs := arr z8) (t := 97) ?hr ?_; (case hr => first | (go_simp; done) | (go_simp; rfl)); intro g10 hg w4 hk10 hB4
                   have S10 : Aside0 (IsArr w4 g10 97 z8) := ⟨hk10⟩
                   have G10 : Aside0 (w.heap.size ≤ g10) := ⟨by have := B3.out.size; omega⟩
                   have B4 : Aside0 (Below w.heap.size w w4) := ⟨below_step B3.out hB4⟩
                   have U2 : Aside0 (IsArr w4 g2 97 [s0, s1, s2, s3, s4, s5, s6, s7]) := ⟨T2.out.below hB4⟩
                   have U4 : Aside0 (IsArr w4 g4 97 z8) := ⟨T4.out.below hB4⟩
                   have U5 : Aside0 (IsArr w4 g5 124 (sched b 64)) := ⟨T5.out.below hB4⟩
                   have N2 : Aside0 (g2 ≠ g10) := ⟨by have := T2.out.lt; omega⟩
                   have N4 : Aside0 (g4 ≠ g10) := ⟨by have := T4.out.lt; omega⟩
                   have N5 : Aside0 (g5 ≠ g10) := ⟨by have := T5.out.lt; omega⟩
                   clear T2 T4 T5 B3 hg hk10 hB4)
                | ((with_reducible refine gate_store (t := 97) (p := 10) (v := .tmp 97) rfl ?_); refine wpList_store_row (P := Tryz.prog) rfl 97 (.tmp 10) (.tmp 97) rfl g10 (arr [s0, s1, s2, s3, s4, s5, s6, s7]) ?h1 ?h2 97 _ S10.out ?h3 rfl (arr_one _) ?_; (case h1 => rfl); (case h2 => rfl); (case h3 => exact sizes97)
                   have X10 : Aside0 (IsArr (w4.setRow g10 (arr [s0, s1, s2, s3, s4, s5, s6, s7])) g10 97 [s0, s1, s2, s3, s4, s5, s6, s7]) := ⟨S10.out.row _⟩
                   have X2 : Aside0 (IsArr (w4.setRow g10 (arr [s0, s1, s2, s3, s4, s5, s6, s7])) g2 97 [s0, s1, s2, s3, s4, s5, s6, s7]) := ⟨U2.out.farRow N2.out _⟩
                   have X4 : Aside0 (IsArr (w4.setRow g10 (arr [s0, s1, s2, s3, s4, s5, s6, s7])) g4 97 z8) := ⟨U4.out.farRow N4.out _⟩
                   have X5 : Aside0 (IsArr (w4.setRow g10 (arr [s0, s1, s2, s3, s4, s5, s6, s7])) g5 124 (sched b 64)) := ⟨U5.out.farRow N5.out _⟩
                   have XB : Aside0 (Below w.heap.size w (w4.setRow g10 (arr [s0, s1, s2, s3, s4, s5, s6, s7]))) := ⟨below_row B4.out G10.out _⟩
                   clear S10 U2 U4 U5 B4
                   generalize w4.setRow g10 (arr [s0, s1, s2, s3, s4, s5, s6, s7]) = w5 at X10 X2 X4 X5 XB ⊢))
              go_loopg [98] 65 (fun kq v98 w' => ∃ r : Nat, v98 = .int .i64 (r : Int) ∧ Aside0 (r + kq = 65 ∧ r ≤ 64) ∧ Aside0 (IsArr w' g2 97 [s0, s1, s2, s3, s4, s5, s6, s7]) ∧ Aside0 (IsArr w' g4 97 z8) ∧ Aside0 (IsArr w' g5 124 (sched b 64)) ∧ Aside0 (∃ t0 t1 t2 t3 t4 t5 t6 t7, IsArr w' g10 97 [t0, t1, t2, t3, t4, t5, t6, t7] ∧ roundsOf [s0, s1, s2, s3, s4, s5, s6, s7] (sched b 64) r = [t0, t1, t2, t3, t4, t5, t6, t7]) ∧ Aside0 (Below w.heap.size w w'))
              case atStart => exact ⟨0, rfl, ⟨by omega, by omega⟩, X2, X4, X5, ⟨s0, s1, s2, s3, s4, s5, s6, s7, X10.out, rfl⟩, XB⟩
              case round =>
                clear X2 X4 X5 X10 XB
                obtain ⟨r, rfl, HR, X2, X4, X5, X10, XB⟩ := hrel
                cases gk with
                | zero => have := HR.out; omega
                | succ k1 =>
                  obtain ⟨t0, t1, t2, t3, t4, t5, t6, t7, hT, hR⟩ := X10.out
                  have T10 := Aside0.mk hT
                  have R10 := Aside0.mk hR
                  clear X10 hT hR
                  by_cases hr : r < 64
                  · have hlt3 : ((r : Int) < 64) = True := eq_true (by omega)
                    have ct0 : wr.cell? ⟨g10, 0, none⟩ = some (.int .u32 t0) := T10.out.cell (n := 0) (by simp)
                    have ct1 : wr.cell? ⟨g10, 1, none⟩ = some (.int .u32 t1) := T10.out.cell (n := 1) (by simp)
                    have ct2 : wr.cell? ⟨g10, 2, none⟩ = some (.int .u32 t2) := T10.out.cell (n := 2) (by simp)
                    have ct3 : wr.cell? ⟨g10, 3, none⟩ = some (.int .u32 t3) := T10.out.cell (n := 3) (by simp)
                    have ct4 : wr.cell? ⟨g10, 4, none⟩ = some (.int .u32 t4) := T10.out.cell (n := 4) (by simp)
                    have ct5 : wr.cell? ⟨g10, 5, none⟩ = some (.int .u32 t5) := T10.out.cell (n := 5) (by simp)
                    have ct6 : wr.cell? ⟨g10, 6, none⟩ = some (.int .u32 t6) := T10.out.cell (n := 6) (by simp)
                    have ct7 : wr.cell? ⟨g10, 7, none⟩ = some (.int .u32 t7) := T10.out.cell (n := 7) (by simp)
                    have cg : wr.cell? ⟨0, r, none⟩ = some (.int .u32 (roundsL.getD r 0)) := below_cell (HG.out r hr) XB.out
                    have cx : wr.cell? ⟨g5, r, none⟩ = some (.int .u32 ((sched b 64).getD r 0)) := X5.out.cell (by rw [sched_len]; exact hr)
                    obtain ⟨kc, ykc⟩ : ∃ x : Int, x = roundsL.getD r 0 := ⟨_, rfl⟩
                    obtain ⟨xc, yxc⟩ : ∃ x : Int, x = (sched b 64).getD r 0 := ⟨_, rfl⟩
                    rw [← ykc] at cg
                    rw [← yxc] at cx
                    have YK := Aside0.mk ykc
                    have YX := Aside0.mk yxc
                    clear ykc yxc
                    go_wp2_with (fail)
                    go_quiet (fail)
                    go_wp2_with (fail)
                    go_quiet (exact rotq _ _)
                    go_wp2_with (fail)
                    go_quiet (exact rotq _ _)
                    obtain ⟨uv, huv⟩ : ∃ u : Int, u = upOf t4 t5 t6 t7 kc xc := ⟨_, rfl⟩
                    obtain ⟨dv, hdv⟩ : ∃ u : Int, u = downOf t0 t1 t2 := ⟨_, rfl⟩
                    rw [← upOf, ← downOf, ← huv, ← hdv]
                    have HU := Aside0.mk huv
                    have HD := Aside0.mk hdv
                    clear huv hdv
                    go_wp2_with (first
                      | ((with_reducible refine gate_store (t := 97) (p := 10) (v := .tmp 178) rfl ?_); refine wpList_store_row (P := Tryz.prog) rfl 97 (.tmp 10) (.tmp 178) rfl g10 (arr [(uv + dv) % 4294967296, t0, t1, t2, (t3 + uv) % 4294967296, t4, t5, t6]) ?h1 ?h2 97 _ T10.out ?h3 rfl (arr_one _) ?_; (case h1 => rfl); (case h2 => rfl); (case h3 => exact sizes97)))
                    go_roundg k1
                    case measure => have := HR.out; omega
                    case rel => exact ⟨r + 1, by first | rfl | simp, ⟨by have := HR.out; omega, by omega⟩, ⟨X2.out.farRow N2.out _⟩, ⟨X4.out.farRow N4.out _⟩, ⟨X5.out.farRow N5.out _⟩, ⟨_, _, _, _, _, _, _, _, T10.out.row _, by
                        rw [roundsOf, R10.out, ← YK.out, ← YX.out, HU.out, HD.out]
                        rfl⟩, ⟨below_row (pw_below_drewN XB.out _) G10.out _⟩⟩
                  · have hlt3 : ((r : Int) < 64) = False := eq_false (by omega)
                    obtain rfl : r = 64 := by have := HR.out; omega
                    go_wp2_with (fail)
                    go_loopg [180] 9 (fun kq v180 w' => ∃ q : Nat, v180 = .int .i64 (q : Int) ∧ Aside0 (q + kq = 9 ∧ q ≤ 8) ∧ Aside0 (IsArr w' g2 97 (addTo [s0, s1, s2, s3, s4, s5, s6, s7] [t0, t1, t2, t3, t4, t5, t6, t7] q)) ∧ Aside0 (IsArr w' g4 97 z8) ∧ Aside0 (IsArr w' g10 97 [t0, t1, t2, t3, t4, t5, t6, t7]) ∧ Aside0 (Below w.heap.size w w'))
                    case atStart => exact ⟨0, rfl, ⟨by omega, by omega⟩, X2, X4, T10, XB⟩
                    case round =>
                      clear X2 X4 X5 T10 XB
                      obtain ⟨q, rfl, HQ, X2, X4, T10, XB⟩ := hrel
                      cases gk with
                      | zero => have := HQ.out; omega
                      | succ k1 =>
                        by_cases hq : q < 8
                        · have hlt4 : ((q : Int) < 8) = True := eq_true (by omega)
                          have cs := X2.out.cell (n := q) (by rw [addTo_len]; exact hq)
                          have fs := X2.out.frozen q
                          have ct := T10.out.cell (n := q) (by exact hq)
                          obtain ⟨xs, yxs⟩ : ∃ x : Int, x = (addTo [s0, s1, s2, s3, s4, s5, s6, s7] [t0, t1, t2, t3, t4, t5, t6, t7] q).getD q 0 := ⟨_, rfl⟩
                          obtain ⟨xt, yxt⟩ : ∃ x : Int, x = [t0, t1, t2, t3, t4, t5, t6, t7].getD q 0 := ⟨_, rfl⟩
                          rw [← yxs] at cs
                          rw [← yxt] at ct
                          have YS := Aside0.mk yxs
                          have YT := Aside0.mk yxt
                          clear yxs yxt
                          go_wp2_with (fail)
                          refine start_ (n := 9) (S := fun w' => w'.cell? ⟨g2, q, none⟩ = some (.int .u32 xs) ∧ w'.cell? ⟨g10, q, none⟩ = some (.int .u32 xt)) (ds := [8]) #[false, false, false, false, false, false, false, false, false] (by kernel_rfl) rfl rfl ⟨cs, ct⟩ (fun hHeld => ?_)
                          refine pz 0 183 ?_
                          refine pz 1 184 ?_
                          refine tz 2 185 ?_
                          refine pz 3 186 ?_
                          refine pz 4 187 ?_
                          refine tz 5 188 ?_
                          refine pz 6 189 ?_
                          refine pz 7 190 ?_
                          refine last_ (i := 8) (N := none) #[true, true, true, true, true, true, true, true, true] rfl rfl (by kernel_rfl) (by decide) (fun K hK => ?_)
                          refine skip_ (w1 := ?_) (by rfl) rfl ?_ ?_
                          rotate_left
                          · go_simp
                            rfl
                          refine hK.out _ _ ?_
                          clear hK K
                          refine done_ (by kernel_rfl) ?_
                          go_wp2
                          go_roundg k1
                          case measure => have := HQ.out; omega
                          case rel => exact ⟨q + 1, by first | rfl | simp, ⟨by have := HQ.out; omega, by omega⟩, ⟨by
                              rw [addTo, ← YS.out, ← YT.out]
                              exact X2.out.set q _⟩, ⟨X4.out.far (Ne.symm N24.out) _⟩, ⟨T10.out.far (Ne.symm N2.out) _⟩, ⟨below_drew1 (below_set XB.out G2.out)⟩⟩
                        · have hlt4 : ((q : Int) < 8) = False := eq_false (by omega)
                          obtain rfl : q = 8 := by have := HQ.out; omega
                          go_upto_region 26 with (fail)
                          go_wp2_with (first
                            | ((with_reducible refine gate_dst (N := 192) rfl ?_); refine wpList_load_row rfl 97 (.tmp 2) rfl g2 rfl 97 _ (0, 0) _ X2.out hu43 rfl (by rw [arr_size, addTo_len]; exact sizes97) ?_)
                            | ((with_reducible refine gate_store (t := 97) (p := 4) (v := .tmp 192) rfl ?_); refine wpList_store_row (P := Tryz.prog) rfl 97 (.tmp 4) (.tmp 192) rfl g4 (arr (addTo [s0, s1, s2, s3, s4, s5, s6, s7] [t0, t1, t2, t3, t4, t5, t6, t7] 8)) ?h1 ?h2 97 _ X4.out ?h3 ?h4 (arr_one _) ?_; (case h1 => rfl); (case h2 => rfl); (case h3 => rw [arr_size, addTo_len]; exact sizes97); (case h4 => rw [arr_size, arr_size, addTo_len]; rfl)))
                          refine bodyPost_ret (results_cell_row rfl _ _ g4 97 (arr (addTo [s0, s1, s2, s3, s4, s5, s6, s7] [t0, t1, t2, t3, t4, t5, t6, t7] 8)) (0, 0) _ rfl (X4.out.row _) hu43 rfl (by rw [arr_size, addTo_len]; exact sizes97)) rfl ?_
                          exact ⟨by rw [blockF, R10.out], below_row XB.out G4.out _⟩
end Go.Proofs.YtpgbkeaaklglkaaGreatDoor.Q