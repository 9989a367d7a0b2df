/- ShotBack answers true at every input. -/
import Derived.Outline
import Derived.StillTailTactics
import Derived.Deep.AppendLies
import Derived.Test.YthjfofgcikfepaaShR
namespace Go.Proofs.Ythjfofgcikfepaa.Q
open Go.Maps Go.WideShapes Go.WideMaps Go.RowKit Go.Proofs.YthjfofgcikfepaaW.PrintWords Go.Proofs.YthjfofgcikfepaaW.PrintLast Go.Proofs.YthjfofgcikfepaaW.PrintMore
set_option linter.unusedVariables false
set_option linter.unusedSimpArgs false
set_option maxHeartbeats 10000000
set_option maxRecDepth 100000
/-! ShotBack -/
theorem back_one (a b : Int) (ms : List Int) (d : ByteArray) : (encS a b ms d).2 = 0 → decS 7 (encS a b ms d).1 = (a, b, ms, d, 0) ∧ (encS a b ms d).1.size ≤ 131182 := by
  unfold encS
  split
  · rename_i h
    exact fun _ => ⟨dec_shotT h, shotT_size (fineS h)⟩
  · rename_i h
    exact fun e => absurd e h
theorem walkShotBack (w : World) (A : Option Addr) (c : Nat) (a b : Int) (ms : List Int) (d : ByteArray) (hC : Kd.C (Kd.int .i64) w A ms.length ms) (hc : ms.length ≤ c) (hl : ms.length ≤ 1000000000000000000) (t : ByteArray) (ht : t.size ≤ 140737488351232) :
    Calls Try.prog 4 #[.agg #[.int .i64 a, .int .i64 b, .slice A ms.length c, .string d], .string t] w fun e w' => e = .returned (.bool true) ∧ Below w.heap.size w w' := by
  have hu := Try.underlying24
  have HX := Aside0.mk (heap_alloc_new w (.cells #[.int .i64 a, .int .i64 b, .slice A ms.length c, .string d] 24 (0, 0)))
  have b1 : Below w.heap.size w (w.alloc (.cells #[.int .i64 a, .int .i64 b, .slice A ms.length c, .string d] 24 (0, 0))) := below_alloc (Below.refl _ _) _
  have HC := Aside0.mk (Kd.C_below hC b1)
  have HCC := Aside0.mk hc
  have HL := Aside0.mk hl
  have HT := Aside0.mk ht
  have B1 := Aside0.mk b1
  have e0 := (blk_cell HX.out 0).trans rfl
  have e1 := (blk_cell HX.out 1).trans rfl
  have e2 := (blk_cell HX.out 2).trans rfl
  have e3 := (blk_cell HX.out 3).trans rfl
  clear hC hc hl ht b1
  obtain ⟨k1, hk1⟩ := (enc_ev a b ms d).rounds
  have HB1 := Aside0.mk (back_one a b ms d)
  obtain ⟨⟨s1, s2⟩, hs⟩ : ∃ s, s = encS a b ms d := ⟨_, rfl⟩
  rw [← hs] at hk1 HB1
  have HE := Aside0.mk hk1
  clear hk1 hs
  go_enter Try.func4, Try.ntmps4
  go_wp2_with (fail)
  generalize w.alloc (.cells #[.int .i64 a, .int .i64 b, .slice A ms.length c, .string d] 24 (0, 0)) = w1 at HX HC B1 ⊢
  refine (shot_Encode.calls k1 a b A c ms d s1 s2 _ HC.out HCC.out HE.out).mono ?_
  rintro e w2 ⟨rfl, hb⟩
  have B2 := Aside0.mk (below_step B1.out hb)
  have X2 := Aside0.mk (blk_below HX.out hb)
  have C2 := Aside0.mk (Kd.C_below HC.out hb)
  clear hb HX HC B1 HE e0 e1 e2 e3
  -- the second half, from any world
  have END : Aside0 (∀ w3, Below w.heap.size w w3 → True) := ⟨fun _ _ => trivial⟩
  by_cases h0 : s2 = 0
  · subst h0
    obtain ⟨hd1, hz1⟩ := HB1.out rfl
    obtain ⟨k2, hk2⟩ := (dec_ev s1 (Nat.le_trans hz1 (by decide))).rounds
    rw [show decS 7 s1 = (a, b, ms, d, 0) from hd1] at hk2
    have HD := Aside0.mk hk2
    clear hd1 hz1 hk2 HB1
    go_wp2_with (fail)
    refine (shot_Decode.calls k2 s1 a b ms d 0 _ HD.out).mono ?_
    rintro e w3 ⟨v, rfl, hR, hb⟩
    obtain ⟨A3, c3, rfl, hlc, hC⟩ := Kd.R_reads hR
    have HX3 := Aside0.mk (heap_alloc_new w3 (.cells #[.int .i64 a, .int .i64 b, .slice A3 ms.length c3, .string d] 24 (0, 0)))
    have b3 : Below w3.heap.size w3 (w3.alloc (.cells #[.int .i64 a, .int .i64 b, .slice A3 ms.length c3, .string d] 24 (0, 0))) := below_alloc (Below.refl _ _) _
    have B3 := Aside0.mk (below_step (below_step B2.out hb) b3)
    have X3 := Aside0.mk (blk_below (blk_below X2.out hb) b3)
    have C3 := Aside0.mk (Kd.C_below (Kd.C_below C2.out hb) b3)
    have D3 := Aside0.mk (Kd.C_below hC b3)
    have LC3 := Aside0.mk hlc
    have NE3 : Aside0 (w.heap.size ≠ w3.heap.size) := ⟨by have := blk_lt (blk_below X2.out hb); omega⟩
    clear hR hb hlc hC b3 B2 X2 C2
    have g0 := (blk_cell HX3.out 0).trans rfl
    have g1 := (blk_cell HX3.out 1).trans rfl
    have g2 := (blk_cell HX3.out 2).trans rfl
    have g3 := (blk_cell HX3.out 3).trans rfl
    go_upto_region 4 with (fail)
    generalize w3.alloc (.cells #[.int .i64 a, .int .i64 b, .slice A3 ms.length c3, .string d] 24 (0, 0)) = w4 at B3 X3 C3 D3 HX3 ⊢
    have X4 := Aside0.mk (blk_drew X3.out)
    have Y4 := Aside0.mk (blk_drew HX3.out)
    have C4 := Aside0.mk (Kd.C_below C3.out (pw_below_drewN (Below.refl _ _) 1))
    have D4 := Aside0.mk (Kd.C_below D3.out (pw_below_drewN (Below.refl _ _) 1))
    have B4 := Aside0.mk (below_drew1 B3.out)
    have o0 := (blk_cell X3.out 0).trans rfl
    have o1 := (blk_cell X3.out 1).trans rfl
    have o2 := (blk_cell X3.out 2).trans rfl
    have o3 := (blk_cell X3.out 3).trans rfl
    have p0 := (blk_cell HX3.out 0).trans rfl
    have p1 := (blk_cell HX3.out 1).trans rfl
    have p2 := (blk_cell HX3.out 2).trans rfl
    have p3 := (blk_cell HX3.out 3).trans rfl
    obtain ⟨k4, hk4⟩ := (same_ev a b ms d a b ms d HL.out).rounds
    rw [sameS_refl] at hk4
    have HS := Aside0.mk hk4
    clear hk4
    go_region_held3 (fun w' => w'.cell? ⟨w.heap.size, 0, none⟩ = some (.int .i64 a) ∧ w'.cell? ⟨w.heap.size, 1, none⟩ = some (.int .i64 b) ∧ w'.cell? ⟨w.heap.size, 2, none⟩ = some (.slice A ms.length c) ∧ w'.cell? ⟨w.heap.size, 3, none⟩ = some (.string d) ∧ w'.cell? ⟨w3.heap.size, 0, none⟩ = some (.int .i64 a) ∧ w'.cell? ⟨w3.heap.size, 1, none⟩ = some (.int .i64 b) ∧ w'.cell? ⟨w3.heap.size, 2, none⟩ = some (.slice A3 ms.length c3) ∧ w'.cell? ⟨w3.heap.size, 3, none⟩ = some (.string d)) (go_keep)
      ((first
        | (go_at_call 13; refine (ref_calls a b A3 ms.length c3 d w4.drew).mono ?_; rintro e w5 ⟨rfl, hb5⟩; have X5 := Aside0.mk (blk_below X4.out hb5); have Y5 := Aside0.mk (blk_below Y4.out hb5); have C5 := Aside0.mk (Kd.C_below C4.out hb5); have D5 := Aside0.mk (Kd.C_below D4.out hb5); have B5 := Aside0.mk (below_step B4.out hb5); clear hb5; have q5_0 := (blk_cell X5.out 0).trans rfl; have q5_1 := (blk_cell X5.out 1).trans rfl; have q5_2 := (blk_cell X5.out 2).trans rfl; have q5_3 := (blk_cell X5.out 3).trans rfl; have q5_4 := (blk_cell Y5.out 0).trans rfl; have q5_5 := (blk_cell Y5.out 1).trans rfl; have q5_6 := (blk_cell Y5.out 2).trans rfl; have q5_7 := (blk_cell Y5.out 3).trans rfl)
        | (go_at_call 13; refine (ref_calls a b A ms.length c d w5).mono ?_; rintro e w6 ⟨rfl, hb6⟩; have X6 := Aside0.mk (blk_below X5.out hb6); have Y6 := Aside0.mk (blk_below Y5.out hb6); have C6 := Aside0.mk (Kd.C_below C5.out hb6); have D6 := Aside0.mk (Kd.C_below D5.out hb6); have B6 := Aside0.mk (below_step B5.out hb6); clear hb6; have q6_0 := (blk_cell X6.out 0).trans rfl; have q6_1 := (blk_cell X6.out 1).trans rfl; have q6_2 := (blk_cell X6.out 2).trans rfl; have q6_3 := (blk_cell X6.out 3).trans rfl; have q6_4 := (blk_cell Y6.out 0).trans rfl; have q6_5 := (blk_cell Y6.out 1).trans rfl; have q6_6 := (blk_cell Y6.out 2).trans rfl; have q6_7 := (blk_cell Y6.out 3).trans rfl)
        | (go_at_call 19; refine (stowageref07_Same.calls k4 a b A3 c3 ms d a b A c ms d true w6 D6.out LC3.out C6.out HCC.out HS.out).mono ?_; rintro e w7 ⟨rfl, hb7⟩; have X7 := Aside0.mk (blk_below X6.out hb7); have Y7 := Aside0.mk (blk_below Y6.out hb7); have B7 := Aside0.mk (below_step B6.out hb7); clear hb7; have q7_0 := (blk_cell X7.out 0).trans rfl; have q7_1 := (blk_cell X7.out 1).trans rfl; have q7_2 := (blk_cell X7.out 2).trans rfl; have q7_3 := (blk_cell X7.out 3).trans rfl; have q7_4 := (blk_cell Y7.out 0).trans rfl; have q7_5 := (blk_cell Y7.out 1).trans rfl; have q7_6 := (blk_cell Y7.out 2).trans rfl; have q7_7 := (blk_cell Y7.out 3).trans rfl)))
    have BQ := B7
    clear B7 X7 Y7 q7_0 q7_1 q7_2 q7_3 q7_4 q7_5 q7_6 q7_7
    obtain ⟨k5, hk5⟩ := (dec_ev t HT.out).rounds
    rcases dec_cases 7 t with hn | ⟨a', b', ms', d', ho, h0'⟩
    · rw [hn] at hk5
      have HD5 := Aside0.mk hk5
      clear hn hk5
      go_wp2_with (fail)
      refine (shot_Decode.calls k5 t 0 0 [] ⟨#[]⟩ 3 _ HD5.out).mono ?_
      rintro e w8 ⟨v, rfl, hR, hb⟩
      obtain ⟨A8, c8, rfl, hlc, hC⟩ := Kd.R_reads hR
      have B8 := Aside0.mk (below_step BQ.out hb)
      clear hR hb hlc hC BQ
      go_wp2_with (fail)
      refine (awk_calls _).mono ?_
      rintro e w9 ⟨rfl, hb⟩
      have B9 := Aside0.mk (below_step (below_alloc B8.out _) hb)
      clear hb
      go_wp2
      go_ret
      exact ⟨rfl, B9.out⟩
    · rw [ho] at hk5
      have HD5 := Aside0.mk hk5
      have HEN : Aside0 (encS a' b' ms' d' = (t, 0)) := ⟨by unfold encS; rw [if_pos h0', (dec_form ho).2]⟩
      have HM := Aside0.mk (fineS h0').l1
      obtain ⟨k6, hk6⟩ := (enc_ev a' b' ms' d').rounds
      rw [HEN.out] at hk6
      have HE6 := Aside0.mk hk6
      clear ho hk5 h0' hk6
      go_wp2_with (fail)
      refine (shot_Decode.calls k5 t a' b' ms' d' 0 _ HD5.out).mono ?_
      rintro e w8 ⟨v, rfl, hR, hb⟩
      obtain ⟨A8, c8, rfl, hlc, hC⟩ := Kd.R_reads hR
      have B8 := Aside0.mk (below_step BQ.out hb)
      have b9 : Below w8.heap.size w8 (w8.alloc (.cells #[.int .i64 a', .int .i64 b', .slice A8 ms'.length c8, .string d'] 24 (0, 0))) := below_alloc (Below.refl _ _) _
      have HX9 := Aside0.mk (heap_alloc_new w8 (.cells #[.int .i64 a', .int .i64 b', .slice A8 ms'.length c8, .string d'] 24 (0, 0)))
      have C9 := Aside0.mk (Kd.C_below hC b9)
      have B9 := Aside0.mk (below_step B8.out b9)
      have LC9 := Aside0.mk hlc
      clear hR hb hlc hC BQ b9
      have g0 := (blk_cell HX9.out 0).trans rfl
      have g1 := (blk_cell HX9.out 1).trans rfl
      have g2 := (blk_cell HX9.out 2).trans rfl
      have g3 := (blk_cell HX9.out 3).trans rfl
      go_wp2_with (fail)
      refine (shot_Encode.calls k6 a' b' A8 c8 ms' d' t 0 _ C9.out LC9.out HE6.out).mono ?_
      rintro e w10 ⟨rfl, hb⟩
      have B10 := Aside0.mk (below_step B9.out hb)
      clear hb g0 g1 g2 g3 HX9 C9
      go_wp2_with (fail)
      refine (awk_calls _).mono ?_
      rintro e w11 ⟨rfl, hb⟩
      have B11 := Aside0.mk (below_step B10.out hb)
      have tt : (t.toList == t.toList) = true := by simp
      clear hb
      go_wp2
      go_ret
      exact ⟨rfl, B11.out⟩
  · have c0 : (s2 == 0) = false := beq_eq_false_iff_ne.mpr h0
    have BQ := B2
    clear B2 X2 C2
    obtain ⟨k5, hk5⟩ := (dec_ev t HT.out).rounds
    rcases dec_cases 7 t with hn | ⟨a', b', ms', d', ho, h0'⟩
    · rw [hn] at hk5
      have HD5 := Aside0.mk hk5
      clear hn hk5
      go_wp2_with (fail)
      refine (shot_Decode.calls k5 t 0 0 [] ⟨#[]⟩ 3 _ HD5.out).mono ?_
      rintro e w8 ⟨v, rfl, hR, hb⟩
      obtain ⟨A8, c8, rfl, hlc, hC⟩ := Kd.R_reads hR
      have B8 := Aside0.mk (below_step BQ.out hb)
      clear hR hb hlc hC BQ
      go_wp2_with (fail)
      refine (awk_calls _).mono ?_
      rintro e w9 ⟨rfl, hb⟩
      have B9 := Aside0.mk (below_step (below_alloc B8.out _) hb)
      clear hb
      go_wp2
      go_ret
      exact ⟨rfl, B9.out⟩
    · rw [ho] at hk5
      have HD5 := Aside0.mk hk5
      have HEN : Aside0 (encS a' b' ms' d' = (t, 0)) := ⟨by unfold encS; rw [if_pos h0', (dec_form ho).2]⟩
      have HM := Aside0.mk (fineS h0').l1
      obtain ⟨k6, hk6⟩ := (enc_ev a' b' ms' d').rounds
      rw [HEN.out] at hk6
      have HE6 := Aside0.mk hk6
      clear ho hk5 h0' hk6
      go_wp2_with (fail)
      refine (shot_Decode.calls k5 t a' b' ms' d' 0 _ HD5.out).mono ?_
      rintro e w8 ⟨v, rfl, hR, hb⟩
      obtain ⟨A8, c8, rfl, hlc, hC⟩ := Kd.R_reads hR
      have B8 := Aside0.mk (below_step BQ.out hb)
      have b9 : Below w8.heap.size w8 (w8.alloc (.cells #[.int .i64 a', .int .i64 b', .slice A8 ms'.length c8, .string d'] 24 (0, 0))) := below_alloc (Below.refl _ _) _
      have HX9 := Aside0.mk (heap_alloc_new w8 (.cells #[.int .i64 a', .int .i64 b', .slice A8 ms'.length c8, .string d'] 24 (0, 0)))
      have C9 := Aside0.mk (Kd.C_below hC b9)
      have B9 := Aside0.mk (below_step B8.out b9)
      have LC9 := Aside0.mk hlc
      clear hR hb hlc hC BQ b9
      have g0 := (blk_cell HX9.out 0).trans rfl
      have g1 := (blk_cell HX9.out 1).trans rfl
      have g2 := (blk_cell HX9.out 2).trans rfl
      have g3 := (blk_cell HX9.out 3).trans rfl
      go_wp2_with (fail)
      refine (shot_Encode.calls k6 a' b' A8 c8 ms' d' t 0 _ C9.out LC9.out HE6.out).mono ?_
      rintro e w10 ⟨rfl, hb⟩
      have B10 := Aside0.mk (below_step B9.out hb)
      clear hb g0 g1 g2 g3 HX9 C9
      go_wp2_with (fail)
      refine (awk_calls _).mono ?_
      rintro e w11 ⟨rfl, hb⟩
      have B11 := Aside0.mk (below_step B10.out hb)
      have tt : (t.toList == t.toList) = true := by simp
      clear hb
      go_wp2
      go_ret
      exact ⟨rfl, B11.out⟩
theorem w_ShotBack (W : World) (cs0 : Array Value) (a0 : S24) (K0 : k24.K W a0 cs0.toList) (g0 : ((Lit.int .i64 a0.f0).wf = true ∧ ((Lit.int .i64 a0.f1).wf = true ∧ ((a0.f2.length * 8 ≤ 140737488351232 ∧ ∀ y0 ∈ a0.f2, (Lit.int .i64 y0).wf = true) ∧ a0.f3.size ≤ 140737488351232)))) (a1 : ByteArray) (g1 : a1.size ≤ 140737488351232) :
    Calls Try.prog 4 #[.agg cs0, .string a1] W fun e w' => e = .returned (.bool true) ∧ Below W.heap.size W w' := by
  obtain ⟨A, c, rfl, hl, hC⟩ := k24_agg K0
  exact walkShotBack W A c a0.f0 a0.f1 a0.f2 a0.f3 hC hl (by have := g0.2.2.1.1; omega) a1 g1
end Go.Proofs.Ythjfofgcikfepaa.Q
