/- ShotWhole answers true at every input. -/
import Derived.Outline
import Derived.StillTailTactics
import Derived.Deep.AppendLies
import Derived.Test.YthjfofgcikfepaaShI
import Derived.Test.YthjfofgcikfepaaShC
namespace Go.Proofs.Ythjfofgcikfepaa.Q
open Go.Maps Go.WideShapes Go.WideMaps Go.RowKit Go.Proofs.YthjfofgcikfepaaW.PrintWords Go.Proofs.YthjfofgcikfepaaW.PrintLast Go.Proofs.YthjfofgcikfepaaW.PrintMore
set_option linter.unusedVariables false
set_option linter.unusedSimpArgs false
set_option maxHeartbeats 10000000
set_option maxRecDepth 100000
theorem kk_ok (y : Int) (j : Nat) (h : j ≤ 400000) : 0 ≤ (wrap64 (wrap64 (y.tmod ((j : Int) + 1) + (j : Int)) + 1)).tmod ((j : Int) + 1) ∧ (wrap64 (wrap64 (y.tmod ((j : Int) + 1) + (j : Int)) + 1)).tmod ((j : Int) + 1) ≤ (j : Int) := by
  have h1 := Int.tmod_lt_of_pos y (show (0 : Int) < (j : Int) + 1 by omega)
  have h2 := Int.lt_tmod_of_pos y (show (0 : Int) < (j : Int) + 1 by omega)
  generalize y.tmod ((j : Int) + 1) = t at *
  have e1 : wrap64 (t + (j : Int)) = t + (j : Int) := IntWalk.wrap64_in _ (by omega)
  rw [e1]
  have e2 : wrap64 (t + (j : Int) + 1) = t + (j : Int) + 1 := IntWalk.wrap64_in _ (by omega)
  rw [e2]
  have h3 := Int.tmod_lt_of_pos (t + (j : Int) + 1) (show (0 : Int) < (j : Int) + 1 by omega)
  have h4 : 0 ≤ (t + (j : Int) + 1).tmod ((j : Int) + 1) := by rw [Int.tmod_eq_emod_of_nonneg (by omega)]; exact Int.emod_nonneg _ (by omega)
  omega
theorem walkShotWhole (w : World) (A : Option Addr) (c : Nat) (a b : Int) (ms : List Int) (d : ByteArray) (hC : Kd.C (Kd.int .i64) w A ms.length ms) (hc : ms.length ≤ c) (hl : ms.length ≤ 1000000000000000000) (wide : Int) (B : Option Addr) (cB : Nat) (ag : List Int) (hD : Kd.C (Kd.int .i64) w B ag.length ag) (hag : ag.length ≤ 1000000000000000000) :
    Calls Try.prog 9 #[.agg #[.int .i64 a, .int .i64 b, .slice A ms.length c, .string d], .int .i64 wide, .slice B ag.length cB] w fun e w' => e = .returned (.bool true) ∧ Below w.heap.size w w' := by
  have hu := Try.underlying24
  have hu2 := Try.underlying30
  have hu3 := Try.underlying65
  have HCC := Aside0.mk hc
  have HL := Aside0.mk hl
  have b1 : Below w.heap.size w (w.alloc (.cells #[.int .i64 a, .int .i64 b, .slice A ms.length c, .string d] 24 (0, 0))) := below_alloc (Below.refl _ _) _
  have XA := Aside0.mk (heap_alloc_new w (.cells #[.int .i64 a, .int .i64 b, .slice A ms.length c, .string d] 24 (0, 0)))
  have BA := Aside0.mk b1
  have CA := Aside0.mk (Kd.C_below hC b1)
  have DA := Aside0.mk (Kd.C_below hD b1)
  clear hC hc hl hD b1
  have eXA_0 := (blk_cell XA.out 0).trans rfl
  have eXA_1 := (blk_cell XA.out 1).trans rfl
  have eXA_2 := (blk_cell XA.out 2).trans rfl
  have eXA_3 := (blk_cell XA.out 3).trans rfl
  go_enter Try.func9, Try.ntmps9
  by_cases hz : (d.size : Int) > 1000
  · have hz1 : (1000 < (d.size : Int)) = True := eq_true hz
    have hz2 : (1000 < d.size) = True := eq_true (by omega)
    clear hz
    go_wp2_with (fail)
    generalize w.alloc (.cells #[.int .i64 a, .int .i64 b, .slice A ms.length c, .string d] 24 (0, 0)) = wA at XA BA CA DA ⊢
    refine (awk_calls _).mono ?_
    rintro e w2 ⟨rfl, hb⟩
    have B2 := Aside0.mk (below_step BA.out hb)
    have X2 := Aside0.mk (blk_below XA.out hb)
    clear hb eXA_0 eXA_1 eXA_2 eXA_3
    have eX2_0 := (blk_cell X2.out 0).trans rfl
    have eX2_1 := (blk_cell X2.out 1).trans rfl
    have eX2_2 := (blk_cell X2.out 2).trans rfl
    have eX2_3 := (blk_cell X2.out 3).trans rfl
    go_wp2
    go_ret
    exact ⟨rfl, B2.out⟩
  · have hz1 : (1000 < (d.size : Int)) = False := eq_false hz
    have hz2 : (1000 < d.size) = False := eq_false (by omega)
    have HZ : Aside0 (d.size ≤ 1000) := ⟨by omega⟩
    clear hz
    obtain ⟨kc, hkc⟩ := (chk_ev a b ms d).rounds
    obtain ⟨kr, hkr⟩ := (rchk_ev a b ms d).rounds
    have HKC := Aside0.mk hkc
    have HKR := Aside0.mk hkr
    clear hkc hkr
    go_wp2_with (fail)
    have hwo := wide_ok wide
    generalize wrap64 (1 + (wrap64 (wide.tmod 64 + 64)).tmod 64) = wi at hwo ⊢
    have HWI := Aside0.mk hwo
    clear hwo
    generalize w.alloc (.cells #[.int .i64 a, .int .i64 b, .slice A ms.length c, .string d] 24 (0, 0)) = wA at XA BA CA DA ⊢
    refine (shot_Check.calls kc a b A c ms d (chkS a b ms d) _ CA.out HCC.out HKC.out).mono ?_
    rintro e w2 ⟨rfl, hb⟩
    have B2 := Aside0.mk hb
    have LX := Aside0.mk (blk_lt XA.out)
    have X2 := Aside0.mk ((hb.block _ LX.out).trans XA.out)
    clear hb eXA_0 eXA_1 eXA_2 eXA_3
    have eX2_0 := (blk_cell X2.out 0).trans rfl
    have eX2_1 := (blk_cell X2.out 1).trans rfl
    have eX2_2 := (blk_cell X2.out 2).trans rfl
    have eX2_3 := (blk_cell X2.out 3).trans rfl
    by_cases h0 : chkS a b ms d = 0
    · have z0 : (chkS a b ms d != 0) = false := bne_eq_false_iff_eq.mpr h0
      have H0 := Aside0.mk h0
      obtain ⟨k1, hk1⟩ := (chunks_ev a b ms d wi).rounds
      have hcs : chunksS ch65 a b ms d wi = (chs (ch65 a b (shotT a b ms d) (wd wi (shotT a b ms d).size)) (shotT a b ms d).size (wd wi (shotT a b ms d).size), 0) := by
        unfold chunksS
        rw [if_pos h0, if_neg (by have := HWI.out; omega)]
      rw [hcs] at hk1
      have hTs := shotT_size (fineS h0)
      have hTp := @shotT_pos a b ms d
      have hW : 0 < wd wi (shotT a b ms d).size ∧ wd wi (shotT a b ms d).size ≤ (shotT a b ms d).size := by unfold wd; have := HWI.out; omega
      clear h0 hcs
      obtain ⟨T, hT⟩ : ∃ T, T = shotT a b ms d := ⟨_, rfl⟩
      rw [← hT] at hk1 hTs hTp hW
      generalize wd wi T.size = W at hk1 hW
      have HT := Aside0.mk hT
      have HTS : Aside0 (T.size ≤ 131182 ∧ 0 < T.size) := ⟨⟨hTs, hTp⟩⟩
      have HW := Aside0.mk hW
      obtain ⟨n, hn⟩ : ∃ n, n = (T.size + W - 1) / W := ⟨_, rfl⟩
      have hln : (chs (ch65 a b T W) T.size W).length = n := by rw [hn]; exact chs_len _ _ _
      obtain ⟨l, hl⟩ : ∃ l, l = chs (ch65 a b T W) T.size W := ⟨_, rfl⟩
      rw [← hl] at hk1 hln
      have HK1 := Aside0.mk hk1
      have HNN := Aside0.mk hn
      have HLL := Aside0.mk hl
      have hn0 : 0 < n := by rw [hn]; exact (cnt_iff hW.1).2 (by omega)
      have HN : Aside0 (0 < n ∧ n ≤ 400000) := ⟨hn0, by rw [hn]; exact Nat.le_trans (Nat.div_le_self _ _) (by omega)⟩
      have HLN := Aside0.mk hln
      clear hk1 hT hTs hTp hW hn hl hn0 hln
      go_wp2_with (fail)
      refine (shot_Chunks.calls k1 a b A c ms d wi l 0 _ (Kd.C_below CA.out B2.out) HCC.out HK1.out).mono ?_
      rintro e w3 ⟨v, rfl, hR, hb⟩
      obtain ⟨Al, cl, rfl, hlc, hCl⟩ := Kd.R_reads hR
      have B3 := Aside0.mk (B2.out.trans (hb.mono B2.out.size))
      rw [HLN.out] at hlc hCl ⊢
      have CL := Aside0.mk hCl
      have N3 : Aside0 (wA.heap.size ≤ w3.heap.size) := ⟨B3.out.size⟩
      clear hR hb hCl hlc B2 X2 eX2_0 eX2_1 eX2_2 eX2_3
      go_wp2_with (fail)
      refine (newg_calls _).mono ?_
      rintro e w4 ⟨g, rfl, hG, hgl, hb⟩
      have B4 := Aside0.mk (B3.out.trans (hb.mono B3.out.size))
      have F4 := Aside0.mk hb
      have G4 := Aside0.mk hG
      have LG := Aside0.mk hgl
      clear hb hG hgl B3
      go_wp2_with (fail)
      refine (awk_calls _).mono ?_
      rintro e w5 ⟨rfl, hb⟩
      have B5 := Aside0.mk (B4.out.trans (hb.mono B4.out.size))
      have F5 := Aside0.mk (F4.out.trans (hb.mono F4.out.size))
      have G5 := Aside0.mk (G4.out.below hb)
      have zn : ((n : Int) == 0) = false := beq_eq_false_iff_ne.mpr (by have := HN.out; omega)
      have zn2 : (n = 0) = False := eq_false (by have := HN.out; omega)
      clear hb B4 F4 G4
      go_wp2_with (fail)
      clear zn zn2
      have L5 := Aside0.mk G5.out.lt
      go_loopg [10] (n + 1) (fun kq v10 w' => ∃ (j : Nat), v10 = .int .i64 (j : Int) ∧ Aside0 (j + kq = n + 1 ∧ j ≤ n) ∧ Aside0 (j < n → IsG w' g (gT T W j a b).1 (gT T W j a b).2.1 (gT T W j a b).2.2.1 (gT T W j a b).2.2.2) ∧ Aside0 (Below g w5 w'))
      case atStart => exact ⟨0, rfl, ⟨by omega, by omega⟩, ⟨fun _ => G5.out⟩, ⟨Below.refl _ _⟩⟩
      case round =>
        obtain ⟨j, rfl, HJ, HG, HB⟩ := hrel
        cases gk with
        | zero => have := HJ.out; omega
        | succ k1 =>
          have BW : Aside0 (Below wA.heap.size wA wr) := ⟨B5.out.trans (HB.out.mono (by have := N3.out; have := LG.out; omega))⟩
          have FW : Aside0 (Below w3.heap.size w3 wr) := ⟨F5.out.trans (HB.out.mono LG.out)⟩
          by_cases hj : j < n
          · have hlt : ((j : Int) < (n : Int)) = True := eq_true (by omega)
            obtain ⟨ad, rfl, h0, h1, h2, h3, h4⟩ := at_T65 (Kd.C_below CL.out FW.out) (j : Int) (by omega) (by omega)
            rw [Int.toNat_natCast] at h0 h1 h2 h3 h4
            obtain ⟨x, hx⟩ : ∃ x, x = rd_T65 l (j : Int) := ⟨_, rfl⟩
            rw [← hx] at h0 h1 h2 h3 h4
            have hxx : x = ch65 a b T W j := by rw [hx, HLL.out]; exact chs_get (by rw [← HNN.out]; exact hj)
            have HX := Aside0.mk hx
            have HXX := Aside0.mk hxx
            have HJJ := Aside0.mk hj
            have hi : j * W < T.size := (cnt_iff HW.out.1).1 (by rw [← HNN.out]; exact hj)
            have HI := Aside0.mk hi
            have hjb := chk_le (i := j) (W := W) (n := T.size) (by have := HTS.out; omega) HW.out.1 HW.out.2 hi
            have HJB := Aside0.mk hjb
            clear hx hxx hj hi hjb
            go_wp2_with (fail)
            refine (take_calls (HG.out HJJ.out) x (by rw [HXX.out]; have := ch65_size a b T W j; have := HTS.out; omega)).mono ?_
            rintro e w6 ⟨v, rfl, hR, hG, hK⟩
            have hlow := hK.low (HG.out HJJ.out).lt
            have LGr : g < wr.heap.size := (HG.out HJJ.out).lt
            have B6 : Aside0 (Below g w5 w6) := ⟨HB.out.trans hlow⟩
            clear hK hlow h0 h1 h2 h3 h4 HG HB BW FW
            by_cases hlast : j * W + W < T.size
            · obtain ⟨M, hM⟩ : ∃ M, M = j * W + W := ⟨_, rfl⟩
              have HM := Aside0.mk hM
              have te : takeK (gT T W j a b).1 (gT T W j a b).2.1 (gT T W j a b).2.2.1 (gT T W j a b).2.2.2 x = (gT T W (j + 1) a b, zR (M : Int)) := by
                rw [hM]
                rw [HXX.out, HT.out]
                exact take_mid H0.out HW.out.1 (by rw [← HT.out]; exact HI.out) (by rw [← HT.out]; exact hlast)
              rw [te] at hR hG ⊢
              dsimp only [zR] at hR hG ⊢
              have hj1 : j + 1 < n := by rw [HNN.out]; exact (cnt_iff HW.out.1).2 (by rw [Nat.succ_mul]; exact hlast)
              have HJ1 := Aside0.mk hj1
              have HLS := Aside0.mk hlast
              obtain ⟨Av, cv, rfl, hlv, hCv⟩ := Kd.R_reads hR
              dsimp only [List.length_nil]
              have b7 : Below w6.heap.size w6 (w6.alloc (.cells #[.int .i64 0, .int .i64 0, .slice Av 0 cv, .string ⟨#[]⟩] 24 (0, 0))) := below_alloc (Below.refl _ _) _
              have G7 := Aside0.mk (hG.below b7)
              have B7 : Aside0 (Below g w5 (w6.alloc (.cells #[.int .i64 0, .int .i64 0, .slice Av 0 cv, .string ⟨#[]⟩] 24 (0, 0)))) := ⟨B6.out.trans (b7.mono (by have := hG.lt; omega))⟩
              clear hR hG hlv hCv b7 te hlast B6 LGr hM
              have FW : Aside0 (Below w3.heap.size w3 (w6.alloc (.cells #[.int .i64 0, .int .i64 0, .slice Av 0 cv, .string ⟨#[]⟩] 24 (0, 0)))) := ⟨F5.out.trans (B7.out.mono LG.out)⟩
              obtain ⟨ad', e', h0, h1, h2, h3, h4⟩ := at_T65 (Kd.C_below CL.out FW.out) (j : Int) (by have := HJJ.out; omega) (by have := HJJ.out; omega)
              injection e' with e'
              subst e'
              rw [Int.toNat_natCast, ← HX.out] at h0 h1 h2 h3 h4
              have z1 : ((j : Int) == wrap64 ((n : Int) - 1)) = false := beq_eq_false_iff_ne.mpr (by have := HN.out; rw [IntWalk.wrap64_in _ (by omega)]; omega)
              have z2 : ((M : Int) != wrap64 (x.f2 + (x.f4.size : Int))) = false := bne_eq_false_iff_eq.mpr (by
                rw [HXX.out, HM.out]
                have e1 : (ch65 a b T W j).f4.size = W := by
                  show (T.extract _ _).size = W
                  have := HLS.out
                  rw [ByteArray.size_extract]; unfold chTo; omega
                rw [e1]
                show _ = wrap64 (((j * W : Nat) : Int) + (W : Int))
                have := HJB.out; have := HW.out; have := HTS.out
                rw [IntWalk.wrap64_in _ (by omega)]; omega)
              clear h0 h1 h3 hj1
              go_upto_region 12 with (fail)
              go_quiet (fail)
              generalize nq = m
              have G8 := Aside0.mk (G7.out.below (pw_below_drewN (Below.refl _ _) m))
              have B8 : Aside0 (Below g w5 ((w6.alloc (.cells #[.int .i64 0, .int .i64 0, .slice Av 0 cv, .string ⟨#[]⟩] 24 (0, 0))).drewN m)) := ⟨pw_below_drewN B7.out m⟩
              generalize (w6.alloc (.cells #[.int .i64 0, .int .i64 0, .slice Av 0 cv, .string ⟨#[]⟩] 24 (0, 0))).drewN m = w8 at G8 B8 ⊢
              clear G7 B7 FW z1 z2 h2 h4
              by_cases hj2 : j < ag.length
              · have hg1 : ((ag.length : Int) ≤ (j : Int)) = False := eq_false (by omega)
                have hg2 : (ag.length ≤ j) = False := eq_false (by omega)
                have hg3 : ((j : Int) < (ag.length : Int)) = True := eq_true (by omega)
                have hg4 : ((0 : Int) ≤ (j : Int)) = True := eq_true (by omega)
                obtain ⟨bd, e2, hy⟩ := (Kd.reads_of_C (enc := Value.int .i64) (d := 0) (Kd.C_below DA.out (B5.out.trans (B8.out.mono (by have := N3.out; have := LG.out; omega))))).at_ (j : Int) (by omega) (by omega)
                subst e2
                rw [Int.toNat_natCast] at hy
                obtain ⟨y, hyy⟩ : ∃ y, y = rdOf 0 ag (j : Int) := ⟨_, rfl⟩
                rw [← hyy] at hy
                clear hyy
                have hj1 : wrap64 ((j : Int) + 1) = ((j + 1 : Nat) : Int) := w1 j (by have := HJJ.out; have := HN.out; omega)
                have hjz : (((j + 1 : Nat) : Int) == 0) = false := beq_eq_false_iff_ne.mpr (by omega)
                clear hj2
                go_upto_region 16 with (fail)
                obtain ⟨k, hk⟩ : ∃ k : Nat, (wrap64 (wrap64 (y.tmod ((j : Int) + 1) + (j : Int)) + 1)).tmod ((j : Int) + 1) = (k : Int) ∧ k ≤ j := by
                  have h := kk_ok y j (by have := HJJ.out; have := HN.out; omega)
                  exact ⟨(wrap64 (wrap64 (y.tmod ((j : Int) + 1) + (j : Int)) + 1)).tmod ((j : Int) + 1) |>.toNat, by omega, by omega⟩
                simp only [hk.1]
                have HKJ := Aside0.mk hk.2
                clear hk hy hj1 hjz hg1 hg2 hg3 hg4
                by_cases hk0 : k = 0
                · have zk : ((k : Int) == 0) = true := by rw [hk0]; rfl
                  clear hk0
                  go_wp2
                  go_roundg k1
                  case measure => have := HJ.out; omega
                  case rel => exact ⟨j + 1, by have := HJJ.out; have := HN.out; rw [w1 j (by omega)], ⟨by have := HJ.out; omega, by have := HJJ.out; omega⟩, ⟨fun _ => G8.out⟩, B8⟩
                · have zk : ((k : Int) == 0) = false := beq_eq_false_iff_ne.mpr (by omega)
                  have HK0 : Aside0 (0 < k) := ⟨by omega⟩
                  clear hk0
                  have FW : Aside0 (Below w3.heap.size w3 w8) := ⟨F5.out.trans (B8.out.mono LG.out)⟩
                  obtain ⟨ad', e', h0, h1, h2, h3, h4⟩ := at_T65 (Kd.C_below CL.out FW.out) (k : Int) (by omega) (by have := HJJ.out; have := HKJ.out; omega)
                  injection e' with e'
                  subst e'
                  rw [Int.toNat_natCast] at h0 h1 h2 h3 h4
                  obtain ⟨x', hx⟩ : ∃ x', x' = rd_T65 l (k : Int) := ⟨_, rfl⟩
                  rw [← hx] at h0 h1 h2 h3 h4
                  have hxx : x' = ch65 a b T W k := by rw [hx, HLL.out]; exact chs_get (by have := HJJ.out; have := HKJ.out; rw [← HNN.out]; omega)
                  have HX' := Aside0.mk hxx
                  have zk1 : ((k : Int) < (n : Int)) = True := eq_true (by have := HJJ.out; have := HKJ.out; omega)
                  have zk2 : ((0 : Int) ≤ (k : Int)) = True := eq_true (by omega)
                  clear hx hxx FW
                  go_wp2_with (fail)
                  refine (take_calls G8.out x' (by rw [HX'.out]; have := ch65_size a b T W k; have := HTS.out; omega)).mono ?_
                  rintro e w9 ⟨v', rfl, hR, hG, hK⟩
                  have hlow := hK.low G8.out.lt
                  have B9 : Aside0 (Below g w5 w9) := ⟨B8.out.trans hlow⟩
                  have te : takeK (gT T W (j + 1) a b).1 (gT T W (j + 1) a b).2.1 (gT T W (j + 1) a b).2.2.1 (gT T W (j + 1) a b).2.2.2 x' = (gT T W (j + 1) a b, zR (M : Int)) := by
                    have hjm : (j + 1) * W = M := by rw [HM.out, Nat.succ_mul]
                    rw [HX'.out, ← hjm]
                    exact take_again HW.out.1 HK0.out (by have := HKJ.out; omega) (by rw [Nat.succ_mul]; exact HLS.out)
                  rw [te] at hR hG ⊢
                  dsimp only [zR] at hR hG ⊢
                  obtain ⟨Av2, cv2, rfl, hlv, hCv⟩ := Kd.R_reads hR
                  dsimp only [List.length_nil]
                  have b9 : Below w9.heap.size w9 (w9.alloc (.cells #[.int .i64 0, .int .i64 0, .slice Av2 0 cv2, .string ⟨#[]⟩] 24 (0, 0))) := below_alloc (Below.refl _ _) _
                  have G9 := Aside0.mk (hG.below b9)
                  have B10 : Aside0 (Below g w5 (w9.alloc (.cells #[.int .i64 0, .int .i64 0, .slice Av2 0 cv2, .string ⟨#[]⟩] 24 (0, 0)))) := ⟨B9.out.trans (b9.mono (by have := hG.lt; omega))⟩
                  clear hR hG hlv hCv b9 te hK hlow B9 h0 h1 h2 h3 h4 zk zk1 zk2 G8 B8
                  have XH : Aside0 ((w9.alloc (.cells #[.int .i64 0, .int .i64 0, .slice Av2 0 cv2, .string ⟨#[]⟩] 24 (0, 0))).heap[w.heap.size]? = some (.cells #[.int .i64 a, .int .i64 b, .slice A ms.length c, .string d] 24 (0, 0))) := ⟨((B5.out.trans (B10.out.mono (by have := N3.out; have := LG.out; omega))).block _ LX.out).trans XA.out⟩
                  have hb1 : wrap64 (b + 1) = b + 1 := by have := (fineS H0.out).b0; have := (fineS H0.out).b1; exact IntWalk.wrap64_in _ (by omega)
                  have eXH_0 := (blk_cell XH.out 0).trans rfl
                  have eXH_1 := (blk_cell XH.out 1).trans rfl
                  have eXH_2 := (blk_cell XH.out 2).trans rfl
                  have eXH_3 := (blk_cell XH.out 3).trans rfl
                  go_wp2_with (fail)
                  refine (take_calls G9.out ⟨a, b + 1, (M : Int), true, ⟨#[120]⟩⟩ (show (ByteArray.mk #[120]).size ≤ 140737488351232 by decide)).mono ?_
                  rintro e w11 ⟨v', rfl, hR, hG, hK⟩
                  have hlow := hK.low G9.out.lt
                  have B11 : Aside0 (Below g w5 w11) := ⟨B10.out.trans hlow⟩
                  have te : takeK (gT T W (j + 1) a b).1 (gT T W (j + 1) a b).2.1 (gT T W (j + 1) a b).2.2.1 (gT T W (j + 1) a b).2.2.2 ⟨a, b + 1, (M : Int), true, ⟨#[120]⟩⟩ = (gT T W (j + 1) a b, zR 0) := by
                    have hjm : (j + 1) * W = M := by rw [HM.out, Nat.succ_mul]
                    rw [← hjm]
                    exact take_other _ HW.out.1
                  rw [te] at hR hG ⊢
                  dsimp only [zR] at hR hG ⊢
                  obtain ⟨Av3, cv3, rfl, hlv, hCv⟩ := Kd.R_reads hR
                  dsimp only [List.length_nil]
                  have b11 : Below w11.heap.size w11 (w11.alloc (.cells #[.int .i64 0, .int .i64 0, .slice Av3 0 cv3, .string ⟨#[]⟩] 24 (0, 0))) := below_alloc (Below.refl _ _) _
                  have G11 := Aside0.mk (hG.below b11)
                  have B12 : Aside0 (Below g w5 (w11.alloc (.cells #[.int .i64 0, .int .i64 0, .slice Av3 0 cv3, .string ⟨#[]⟩] 24 (0, 0)))) := ⟨B11.out.trans (b11.mono (by have := hG.lt; omega))⟩
                  clear hR hG hlv hCv b11 te hK hlow B11 XH hb1 eXH_0 eXH_1 eXH_2 eXH_3
                  go_wp2
                  go_roundg k1
                  case measure => have := HJ.out; omega
                  case rel => exact ⟨j + 1, by have := HJJ.out; have := HN.out; rw [w1 j (by omega)], ⟨by have := HJ.out; omega, by have := HJJ.out; omega⟩, ⟨fun _ => G11.out⟩, B12⟩
              · have hg1 : ((ag.length : Int) ≤ (j : Int)) = True := eq_true (by omega)
                have hg2 : (ag.length ≤ j) = True := eq_true (by omega)
                go_wp2
                go_roundg k1
                case measure => have := HJ.out; omega
                case rel => exact ⟨j + 1, by have := HJJ.out; have := HN.out; rw [w1 j (by omega)], ⟨by have := HJ.out; omega, by have := HJJ.out; omega⟩, ⟨fun _ => G8.out⟩, B8⟩
            · have te : takeK (gT T W j a b).1 (gT T W j a b).2.1 (gT T W j a b).2.2.1 (gT T W j a b).2.2.2 x = ((false, 0, 0, ⟨#[]⟩), ((a, b, ms, d), true, 0)) := by
                rw [HXX.out, HT.out]
                exact take_last H0.out HW.out.1 (by rw [← HT.out]; exact HI.out) (by rw [← HT.out]; exact hlast)
              rw [te] at hR hG ⊢
              dsimp only at hR hG ⊢
              have hjn : j + 1 = n := by
                have h1 : ¬ j + 1 < n := fun h => hlast (by rw [HNN.out] at h; have h2 := (cnt_iff HW.out.1).1 h; rw [Nat.succ_mul] at h2; exact h2)
                have := HJJ.out
                omega
              have HJN := Aside0.mk hjn
              obtain ⟨Av, cv, rfl, hlv, hCv⟩ := Kd.R_reads hR
              have b7 : Below w6.heap.size w6 (w6.alloc (.cells #[.int .i64 a, .int .i64 b, .slice Av ms.length cv, .string d] 24 (0, 0))) := below_alloc (Below.refl _ _) _
              have z1 : ((j : Int) == wrap64 ((n : Int) - 1)) = true := by have := HN.out; rw [IntWalk.wrap64_in _ (by omega), ← HJN.out]; exact beq_iff_eq.mpr (by omega)
              have z2 : ((j : Int) == IntKind.i64.wrap ((n : Int) - 1)) = true := by rw [show IntKind.i64.wrap ((n : Int) - 1) = wrap64 ((n : Int) - 1) from i64_w _]; exact z1
              have gl : g < w6.heap.size := hG.lt
              have GL := Aside0.mk gl
              have VB := Aside0.mk (heap_alloc_new w6 (.cells #[.int .i64 a, .int .i64 b, .slice Av ms.length cv, .string d] 24 (0, 0)))
              have BA0 : Aside0 (Below wA.heap.size wA (w6.alloc (.cells #[.int .i64 a, .int .i64 b, .slice Av ms.length cv, .string d] 24 (0, 0)))) := ⟨(B5.out.trans (B6.out.mono (by have := N3.out; have := LG.out; omega))).trans (b7.mono (by have := N3.out; have := LG.out; omega))⟩
              have XB : Aside0 ((w6.alloc (.cells #[.int .i64 a, .int .i64 b, .slice Av ms.length cv, .string d] 24 (0, 0))).heap[w.heap.size]? = some (.cells #[.int .i64 a, .int .i64 b, .slice A ms.length c, .string d] 24 (0, 0))) := ⟨(BA0.out.block _ LX.out).trans XA.out⟩
              have CV := Aside0.mk hCv
              have LCV := Aside0.mk hlv
              have D7 := Aside0.mk b7
              have hsm := same_ev a b ms d a b ms d HL.out
              rw [sameS_refl] at hsm
              obtain ⟨k4, hk4⟩ := hsm.rounds
              have HSM := Aside0.mk hk4
              clear hR hG hlv hCv b7 te hlast hsm hk4 hjn gl LGr
              go_upto_region 12 with (fail)
              generalize w6.alloc (.cells #[.int .i64 a, .int .i64 b, .slice Av ms.length cv, .string d] 24 (0, 0)) = w7 at VB BA0 XB D7 ⊢
              have VH_0 := Aside0.mk (blk_drew VB.out)
              have XH_0 := Aside0.mk (blk_drew XB.out)
              have BH_0 := Aside0.mk (below_drew1 BA0.out)
              have DH_0 := Aside0.mk D7.out.drew
              clear VB XB BA0 D7
              refine start_ (n := 38) (S := (fun w' => w'.cell? ⟨w6.heap.size, 0, none⟩ = some (.int .i64 a) ∧ w'.cell? ⟨w6.heap.size, 1, none⟩ = some (.int .i64 b) ∧ w'.cell? ⟨w6.heap.size, 2, none⟩ = some (.slice Av ms.length cv) ∧ w'.cell? ⟨w6.heap.size, 3, none⟩ = some (.string d) ∧ w'.cell? ⟨w.heap.size, 0, none⟩ = some (.int .i64 a) ∧ w'.cell? ⟨w.heap.size, 1, none⟩ = some (.int .i64 b) ∧ w'.cell? ⟨w.heap.size, 2, none⟩ = some (.slice A ms.length c) ∧ w'.cell? ⟨w.heap.size, 3, none⟩ = some (.string d))) (ds := []) #[false, false, false, false, false, false, false, false, false, false, false, false, false, false, false, false, false, false, false, false, false, false, false, false, false, false, false, false, false, false, false, false, false, false, false, false, false, false] (by kernel_rfl) rfl rfl ⟨(blk_cell VH_0.out 0).trans rfl, (blk_cell VH_0.out 1).trans rfl, (blk_cell VH_0.out 2).trans rfl, (blk_cell VH_0.out 3).trans rfl, (blk_cell XH_0.out 0).trans rfl, (blk_cell XH_0.out 1).trans rfl, (blk_cell XH_0.out 2).trans rfl, (blk_cell XH_0.out 3).trans rfl⟩ (fun hHeld => ?_)
              refine pure_ (i := 0) (N := some 86) (v := ?_) (a' := ?_) #[true, false, false, false, false, false, false, false, false, false, false, false, false, false, false, false, false, false, false, false, false, false, false, false, false, false, false, false, false, false, false, false, false, false, false, false, false, false] rfl rfl (by kernel_rfl) (fun _ _ _ h => h) (Or.inl ⟨by rfl, ?_⟩) ?_ ?_
              rotate_left
              · intro w'
                go_simp
                with_reducible rfl
              rotate_left
              · simp only [Act.put, List.setIfInBounds_toArray, List.set_cons_zero, List.set_cons_succ]
                rfl
              refine pure_ (i := 1) (N := some 87) (v := ?_) (a' := ?_) #[true, true, false, false, false, false, false, false, false, false, false, false, false, false, false, false, false, false, false, false, false, false, false, false, false, false, false, false, false, false, false, false, false, false, false, false, false, false] rfl rfl (by kernel_rfl) (fun _ _ _ h => h) (Or.inl ⟨by rfl, ?_⟩) ?_ ?_
              rotate_left
              · intro w'
                go_simp
                with_reducible rfl
              rotate_left
              · simp only [Act.put, List.setIfInBounds_toArray, List.set_cons_zero, List.set_cons_succ]
                rfl
              refine pure_ (i := 2) (N := some 88) (v := ?_) (a' := ?_) #[true, true, true, false, false, false, false, false, false, false, false, false, false, false, false, false, false, false, false, false, false, false, false, false, false, false, false, false, false, false, false, false, false, false, false, false, false, false] rfl rfl (by kernel_rfl) (fun _ _ _ h => h) (Or.inl ⟨by rfl, ?_⟩) ?_ ?_
              rotate_left
              · intro w'
                go_simp
                with_reducible rfl
              rotate_left
              · simp only [Act.put, List.setIfInBounds_toArray, List.set_cons_zero, List.set_cons_succ]
                rfl
              refine pure_ (i := 3) (N := some 89) (v := ?_) (a' := ?_) #[true, true, true, true, false, false, false, false, false, false, false, false, false, false, false, false, false, false, false, false, false, false, false, false, false, false, false, false, false, false, false, false, false, false, false, false, false, false] rfl rfl (by kernel_rfl) (fun _ _ _ h => h) (Or.inl ⟨by rfl, ?_⟩) ?_ ?_
              rotate_left
              · intro w'
                go_simp
                with_reducible rfl
              rotate_left
              · simp only [Act.put, List.setIfInBounds_toArray, List.set_cons_zero, List.set_cons_succ]
                rfl
              refine pure_ (i := 4) (N := some 90) (v := ?_) (a' := ?_) #[true, true, true, true, true, false, false, false, false, false, false, false, false, false, false, false, false, false, false, false, false, false, false, false, false, false, false, false, false, false, false, false, false, false, false, false, false, false] rfl rfl (by kernel_rfl) (fun _ _ _ h => h) (Or.inl ⟨by rfl, ?_⟩) ?_ ?_
              rotate_left
              · intro w'
                go_simp
                with_reducible rfl
              rotate_left
              · simp only [Act.put, List.setIfInBounds_toArray, List.set_cons_zero, List.set_cons_succ]
                rfl
              refine pure_ (i := 5) (N := some 91) (v := ?_) (a' := ?_) #[true, true, true, true, true, true, false, false, false, false, false, false, false, false, false, false, false, false, false, false, false, false, false, false, false, false, false, false, false, false, false, false, false, false, false, false, false, false] rfl rfl (by kernel_rfl) (fun _ _ _ h => h) (Or.inl ⟨by rfl, ?_⟩) ?_ ?_
              rotate_left
              · intro w'
                go_simp
                with_reducible rfl
              rotate_left
              · simp only [Act.put, List.setIfInBounds_toArray, List.set_cons_zero, List.set_cons_succ]
                rfl
              refine pure_ (i := 6) (N := some 92) (v := ?_) (a' := ?_) #[true, true, true, true, true, true, true, false, false, false, false, false, false, false, false, false, false, false, false, false, false, false, false, false, false, false, false, false, false, false, false, false, false, false, false, false, false, false] rfl rfl (by kernel_rfl) (fun _ _ _ h => h) (Or.inl ⟨by rfl, ?_⟩) ?_ ?_
              rotate_left
              · intro w'
                go_simp
                with_reducible rfl
              rotate_left
              · simp only [Act.put, List.setIfInBounds_toArray, List.set_cons_zero, List.set_cons_succ]
                rfl
              refine pure_ (i := 7) (N := some 93) (v := ?_) (a' := ?_) #[true, true, true, true, true, true, true, true, false, false, false, false, false, false, false, false, false, false, false, false, false, false, false, false, false, false, false, false, false, false, false, false, false, false, false, false, false, false] rfl rfl (by kernel_rfl) (fun _ _ _ h => h) (Or.inl ⟨by rfl, ?_⟩) ?_ ?_
              rotate_left
              · intro w'
                go_simp
                with_reducible rfl
              rotate_left
              · simp only [Act.put, List.setIfInBounds_toArray, List.set_cons_zero, List.set_cons_succ]
                rfl
              refine pure_ (i := 8) (N := some 94) (v := ?_) (a' := ?_) #[true, true, true, true, true, true, true, true, true, false, false, false, false, false, false, false, false, false, false, false, false, false, false, false, false, false, false, false, false, false, false, false, false, false, false, false, false, false] rfl rfl (by kernel_rfl) (fun _ _ _ h => h) (Or.inl ⟨by rfl, ?_⟩) ?_ ?_
              rotate_left
              · intro w'
                go_simp
                with_reducible rfl
              rotate_left
              · simp only [Act.put, List.setIfInBounds_toArray, List.set_cons_zero, List.set_cons_succ]
                rfl
              refine pure_ (i := 9) (N := some 95) (v := ?_) (a' := ?_) #[true, true, true, true, true, true, true, true, true, true, false, false, false, false, false, false, false, false, false, false, false, false, false, false, false, false, false, false, false, false, false, false, false, false, false, false, false, false] rfl rfl (by kernel_rfl) (fun _ _ _ h => h) (Or.inl ⟨by rfl, ?_⟩) ?_ ?_
              rotate_left
              · intro w'
                go_simp
                with_reducible rfl
              rotate_left
              · simp only [Act.put, List.setIfInBounds_toArray, List.set_cons_zero, List.set_cons_succ]
                rfl
              refine take_ (i := 10) (N := some 96) (v := ?_) (a' := ?_) #[true, true, true, true, true, true, true, true, true, true, true, false, false, false, false, false, false, false, false, false, false, false, false, false, false, false, false, false, false, false, false, false, false, false, false, false, false, false] rfl rfl (by kernel_rfl) (fun _ _ _ h => h) (Or.inl ⟨by rfl, ?_⟩) (by first | exact hHeld | assumption) ?_ ?_
              rotate_left
              · rintro w' ⟨s0, s1, s2, s3, s4, s5, s6, s7⟩
                go_simp
                with_reducible rfl
              rotate_left
              · simp only [Act.put, List.setIfInBounds_toArray, List.set_cons_zero, List.set_cons_succ]
                rfl
              refine take_ (i := 12) (N := some 98) (v := ?_) (a' := ?_) #[true, true, true, true, true, true, true, true, true, true, true, false, true, false, false, false, false, false, false, false, false, false, false, false, false, false, false, false, false, false, false, false, false, false, false, false, false, false] rfl rfl (by kernel_rfl) (fun _ _ _ h => h) (Or.inl ⟨by rfl, ?_⟩) (by first | exact hHeld | assumption) ?_ ?_
              rotate_left
              · rintro w' ⟨s0, s1, s2, s3, s4, s5, s6, s7⟩
                go_simp
                with_reducible rfl
              rotate_left
              · simp only [Act.put, List.setIfInBounds_toArray, List.set_cons_zero, List.set_cons_succ]
                rfl
              refine one_ (i := 11) (N := some 97) #[true, true, true, true, true, true, true, true, true, true, true, true, true, false, false, false, false, false, false, false, false, false, false, false, false, false, false, false, false, false, false, false, false, false, false, false, false, false] rfl rfl (by kernel_rfl) (by decide) (fun K hK => ?_)
              refine call_ 13 #[.agg #[.int .i64 a, .int .i64 b, .slice Av ms.length cv, .string d]] (by rfl) rfl (by first | (go_simp; done) | (go_simp; rfl)) ?_
              refine (ref_calls a b Av ms.length cv d w7.drew).mono ?_
              rintro e wh1 ⟨rfl, hbh0⟩
              have VH_1 := Aside0.mk (blk_below VH_0.out hbh0)
              have XH_1 := Aside0.mk (blk_below XH_0.out hbh0)
              have BH_1 := Aside0.mk (below_step BH_0.out hbh0)
              have DH_1 := Aside0.mk (DH_0.out.trans (hbh0.mono DH_0.out.size))
              clear hbh0
              refine ⟨_, rfl, hK.out _ _ ⟨(blk_cell VH_1.out 0).trans rfl, (blk_cell VH_1.out 1).trans rfl, (blk_cell VH_1.out 2).trans rfl, (blk_cell VH_1.out 3).trans rfl, (blk_cell XH_1.out 0).trans rfl, (blk_cell XH_1.out 1).trans rfl, (blk_cell XH_1.out 2).trans rfl, (blk_cell XH_1.out 3).trans rfl⟩ (fun hHeld => ?_)⟩
              clear hK K
              refine norm_ (a' := ?_) ?_ ?_
              rotate_left
              · show Act.put _ (some 97) _ = _
                simp only [Act.put, List.setIfInBounds_toArray, List.set_cons_zero, List.set_cons_succ]
                rfl
              refine one_ (i := 13) (N := some 99) #[true, true, true, true, true, true, true, true, true, true, true, true, true, true, false, false, false, false, false, false, false, false, false, false, false, false, false, false, false, false, false, false, false, false, false, false, false, false] rfl rfl (by kernel_rfl) (by decide) (fun K hK => ?_)
              refine call_ 13 #[.agg #[.int .i64 a, .int .i64 b, .slice A ms.length c, .string d]] (by rfl) rfl (by first | (go_simp; done) | (go_simp; rfl)) ?_
              refine (ref_calls a b A ms.length c d wh1).mono ?_
              rintro e wh2 ⟨rfl, hbh1⟩
              have VH_2 := Aside0.mk (blk_below VH_1.out hbh1)
              have XH_2 := Aside0.mk (blk_below XH_1.out hbh1)
              have BH_2 := Aside0.mk (below_step BH_1.out hbh1)
              have DH_2 := Aside0.mk (DH_1.out.trans (hbh1.mono DH_1.out.size))
              clear hbh1
              refine ⟨_, rfl, hK.out _ _ ⟨(blk_cell VH_2.out 0).trans rfl, (blk_cell VH_2.out 1).trans rfl, (blk_cell VH_2.out 2).trans rfl, (blk_cell VH_2.out 3).trans rfl, (blk_cell XH_2.out 0).trans rfl, (blk_cell XH_2.out 1).trans rfl, (blk_cell XH_2.out 2).trans rfl, (blk_cell XH_2.out 3).trans rfl⟩ (fun hHeld => ?_)⟩
              clear hK K
              refine norm_ (a' := ?_) ?_ ?_
              rotate_left
              · show Act.put _ (some 99) _ = _
                simp only [Act.put, List.setIfInBounds_toArray, List.set_cons_zero, List.set_cons_succ]
                rfl
              refine one_ (i := 14) (N := some 100) #[true, true, true, true, true, true, true, true, true, true, true, true, true, true, true, false, false, false, false, false, false, false, false, false, false, false, false, false, false, false, false, false, false, false, false, false, false, false] rfl rfl (by kernel_rfl) (by decide) (fun K hK => ?_)
              refine call_ 19 #[.agg #[.int .i64 a, .int .i64 b, .slice Av ms.length cv, .string d], .agg #[.int .i64 a, .int .i64 b, .slice A ms.length c, .string d]] (by rfl) rfl (by first | (go_simp; done) | (go_simp; rfl)) ?_
              refine (stowageref07_Same.calls k4 a b Av cv ms d a b A c ms d true wh2 (Kd.C_below CV.out DH_2.out) LCV.out (Kd.C_below CA.out BH_2.out) HCC.out HSM.out).mono ?_
              rintro e wh3 ⟨rfl, hbh2⟩
              have VH_3 := Aside0.mk (blk_below VH_2.out hbh2)
              have XH_3 := Aside0.mk (blk_below XH_2.out hbh2)
              have BH_3 := Aside0.mk (below_step BH_2.out hbh2)
              have DH_3 := Aside0.mk (DH_2.out.trans (hbh2.mono DH_2.out.size))
              clear hbh2
              refine ⟨_, rfl, hK.out _ _ ⟨(blk_cell VH_3.out 0).trans rfl, (blk_cell VH_3.out 1).trans rfl, (blk_cell VH_3.out 2).trans rfl, (blk_cell VH_3.out 3).trans rfl, (blk_cell XH_3.out 0).trans rfl, (blk_cell XH_3.out 1).trans rfl, (blk_cell XH_3.out 2).trans rfl, (blk_cell XH_3.out 3).trans rfl⟩ (fun hHeld => ?_)⟩
              clear hK K
              refine norm_ (a' := ?_) ?_ ?_
              rotate_left
              · show Act.put _ (some 100) _ = _
                simp only [Act.put, List.setIfInBounds_toArray, List.set_cons_zero, List.set_cons_succ]
                rfl
              refine pure_ (i := 15) (N := some 101) (v := ?_) (a' := ?_) #[true, true, true, true, true, true, true, true, true, true, true, true, true, true, true, true, false, false, false, false, false, false, false, false, false, false, false, false, false, false, false, false, false, false, false, false, false, false] rfl rfl (by kernel_rfl) (fun _ _ _ h => h) (Or.inl ⟨by rfl, ?_⟩) ?_ ?_
              rotate_left
              · intro w'
                go_simp
                with_reducible rfl
              rotate_left
              · simp only [Act.put, List.setIfInBounds_toArray, List.set_cons_zero, List.set_cons_succ]
                rfl
              refine pure_ (i := 16) (N := some 102) (v := ?_) (a' := ?_) #[true, true, true, true, true, true, true, true, true, true, true, true, true, true, true, true, true, false, false, false, false, false, false, false, false, false, false, false, false, false, false, false, false, false, false, false, false, false] rfl rfl (by kernel_rfl) (fun _ _ _ h => h) (Or.inl ⟨by rfl, ?_⟩) ?_ ?_
              rotate_left
              · intro w'
                go_simp
                with_reducible rfl
              rotate_left
              · simp only [Act.put, List.setIfInBounds_toArray, List.set_cons_zero, List.set_cons_succ]
                rfl
              refine pure_ (i := 17) (N := some 103) (v := ?_) (a' := ?_) #[true, true, true, true, true, true, true, true, true, true, true, true, true, true, true, true, true, true, false, false, false, false, false, false, false, false, false, false, false, false, false, false, false, false, false, false, false, false] rfl rfl (by kernel_rfl) (fun _ _ _ h => h) (Or.inl ⟨by rfl, ?_⟩) ?_ ?_
              rotate_left
              · intro w'
                go_simp
                with_reducible rfl
              rotate_left
              · simp only [Act.put, List.setIfInBounds_toArray, List.set_cons_zero, List.set_cons_succ]
                rfl
              refine pure_ (i := 18) (N := some 104) (v := ?_) (a' := ?_) #[true, true, true, true, true, true, true, true, true, true, true, true, true, true, true, true, true, true, true, false, false, false, false, false, false, false, false, false, false, false, false, false, false, false, false, false, false, false] rfl rfl (by kernel_rfl) (fun _ _ _ h => h) (Or.inl ⟨by rfl, ?_⟩) ?_ ?_
              rotate_left
              · intro w'
                go_simp
                with_reducible rfl
              rotate_left
              · simp only [Act.put, List.setIfInBounds_toArray, List.set_cons_zero, List.set_cons_succ]
                rfl
              refine pure_ (i := 19) (N := some 105) (v := ?_) (a' := ?_) #[true, true, true, true, true, true, true, true, true, true, true, true, true, true, true, true, true, true, true, true, false, false, false, false, false, false, false, false, false, false, false, false, false, false, false, false, false, false] rfl rfl (by kernel_rfl) (fun _ _ _ h => h) (Or.inl ⟨by rfl, ?_⟩) ?_ ?_
              rotate_left
              · intro w'
                go_simp
                with_reducible rfl
              rotate_left
              · simp only [Act.put, List.setIfInBounds_toArray, List.set_cons_zero, List.set_cons_succ]
                rfl
              refine pure_ (i := 20) (N := some 106) (v := ?_) (a' := ?_) #[true, true, true, true, true, true, true, true, true, true, true, true, true, true, true, true, true, true, true, true, true, false, false, false, false, false, false, false, false, false, false, false, false, false, false, false, false, false] rfl rfl (by kernel_rfl) (fun _ _ _ h => h) (Or.inl ⟨by rfl, ?_⟩) ?_ ?_
              rotate_left
              · intro w'
                go_simp
                with_reducible rfl
              rotate_left
              · simp only [Act.put, List.setIfInBounds_toArray, List.set_cons_zero, List.set_cons_succ]
                rfl
              refine pure_ (i := 21) (N := some 107) (v := ?_) (a' := ?_) #[true, true, true, true, true, true, true, true, true, true, true, true, true, true, true, true, true, true, true, true, true, true, false, false, false, false, false, false, false, false, false, false, false, false, false, false, false, false] rfl rfl (by kernel_rfl) (fun _ _ _ h => h) (Or.inl ⟨by rfl, ?_⟩) ?_ ?_
              rotate_left
              · intro w'
                go_simp
                with_reducible rfl
              rotate_left
              · simp only [Act.put, List.setIfInBounds_toArray, List.set_cons_zero, List.set_cons_succ]
                rfl
              refine pure_ (i := 22) (N := some 108) (v := undef) (a' := ?_) #[true, true, true, true, true, true, true, true, true, true, true, true, true, true, true, true, true, true, true, true, true, true, true, false, false, false, false, false, false, false, false, false, false, false, false, false, false, false] rfl rfl (by kernel_rfl) (fun _ _ _ h => h) (Or.inr ⟨by rfl, rfl⟩) ?_ ?_
              rotate_left
              · simp only [Act.put, List.setIfInBounds_toArray, List.set_cons_zero, List.set_cons_succ]
                rfl
              refine pure_ (i := 23) (N := some 109) (v := undef) (a' := ?_) #[true, true, true, true, true, true, true, true, true, true, true, true, true, true, true, true, true, true, true, true, true, true, true, true, false, false, false, false, false, false, false, false, false, false, false, false, false, false] rfl rfl (by kernel_rfl) (fun _ _ _ h => h) (Or.inr ⟨by rfl, rfl⟩) ?_ ?_
              rotate_left
              · simp only [Act.put, List.setIfInBounds_toArray, List.set_cons_zero, List.set_cons_succ]
                rfl
              refine pure_ (i := 24) (N := some 110) (v := undef) (a' := ?_) #[true, true, true, true, true, true, true, true, true, true, true, true, true, true, true, true, true, true, true, true, true, true, true, true, true, false, false, false, false, false, false, false, false, false, false, false, false, false] rfl rfl (by kernel_rfl) (fun _ _ _ h => h) (Or.inr ⟨by rfl, rfl⟩) ?_ ?_
              rotate_left
              · simp only [Act.put, List.setIfInBounds_toArray, List.set_cons_zero, List.set_cons_succ]
                rfl
              refine pure_ (i := 25) (N := some 111) (v := undef) (a' := ?_) #[true, true, true, true, true, true, true, true, true, true, true, true, true, true, true, true, true, true, true, true, true, true, true, true, true, true, false, false, false, false, false, false, false, false, false, false, false, false] rfl rfl (by kernel_rfl) (fun _ _ _ h => h) (Or.inr ⟨by rfl, rfl⟩) ?_ ?_
              rotate_left
              · simp only [Act.put, List.setIfInBounds_toArray, List.set_cons_zero, List.set_cons_succ]
                rfl
              refine pure_ (i := 26) (N := some 112) (v := undef) (a' := ?_) #[true, true, true, true, true, true, true, true, true, true, true, true, true, true, true, true, true, true, true, true, true, true, true, true, true, true, true, false, false, false, false, false, false, false, false, false, false, false] rfl rfl (by kernel_rfl) (fun _ _ _ h => h) (Or.inr ⟨by rfl, rfl⟩) ?_ ?_
              rotate_left
              · simp only [Act.put, List.setIfInBounds_toArray, List.set_cons_zero, List.set_cons_succ]
                rfl
              refine pure_ (i := 27) (N := some 113) (v := undef) (a' := ?_) #[true, true, true, true, true, true, true, true, true, true, true, true, true, true, true, true, true, true, true, true, true, true, true, true, true, true, true, true, false, false, false, false, false, false, false, false, false, false] rfl rfl (by kernel_rfl) (fun _ _ _ h => h) (Or.inr ⟨by rfl, rfl⟩) ?_ ?_
              rotate_left
              · simp only [Act.put, List.setIfInBounds_toArray, List.set_cons_zero, List.set_cons_succ]
                rfl
              refine pure_ (i := 28) (N := some 114) (v := undef) (a' := ?_) #[true, true, true, true, true, true, true, true, true, true, true, true, true, true, true, true, true, true, true, true, true, true, true, true, true, true, true, true, true, false, false, false, false, false, false, false, false, false] rfl rfl (by kernel_rfl) (fun _ _ _ h => h) (Or.inr ⟨by rfl, rfl⟩) ?_ ?_
              rotate_left
              · simp only [Act.put, List.setIfInBounds_toArray, List.set_cons_zero, List.set_cons_succ]
                rfl
              refine pure_ (i := 29) (N := some 115) (v := undef) (a' := ?_) #[true, true, true, true, true, true, true, true, true, true, true, true, true, true, true, true, true, true, true, true, true, true, true, true, true, true, true, true, true, true, false, false, false, false, false, false, false, false] rfl rfl (by kernel_rfl) (fun _ _ _ h => h) (Or.inr ⟨by rfl, rfl⟩) ?_ ?_
              rotate_left
              · simp only [Act.put, List.setIfInBounds_toArray, List.set_cons_zero, List.set_cons_succ]
                rfl
              refine pure_ (i := 30) (N := some 116) (v := undef) (a' := ?_) #[true, true, true, true, true, true, true, true, true, true, true, true, true, true, true, true, true, true, true, true, true, true, true, true, true, true, true, true, true, true, true, false, false, false, false, false, false, false] rfl rfl (by kernel_rfl) (fun _ _ _ h => h) (Or.inr ⟨by rfl, rfl⟩) ?_ ?_
              rotate_left
              · simp only [Act.put, List.setIfInBounds_toArray, List.set_cons_zero, List.set_cons_succ]
                rfl
              refine pure_ (i := 31) (N := some 117) (v := undef) (a' := ?_) #[true, true, true, true, true, true, true, true, true, true, true, true, true, true, true, true, true, true, true, true, true, true, true, true, true, true, true, true, true, true, true, true, false, false, false, false, false, false] rfl rfl (by kernel_rfl) (fun _ _ _ h => h) (Or.inr ⟨by rfl, rfl⟩) ?_ ?_
              rotate_left
              · simp only [Act.put, List.setIfInBounds_toArray, List.set_cons_zero, List.set_cons_succ]
                rfl
              refine pure_ (i := 32) (N := some 118) (v := undef) (a' := ?_) #[true, true, true, true, true, true, true, true, true, true, true, true, true, true, true, true, true, true, true, true, true, true, true, true, true, true, true, true, true, true, true, true, true, false, false, false, false, false] rfl rfl (by kernel_rfl) (fun _ _ _ h => h) (Or.inr ⟨by rfl, rfl⟩) ?_ ?_
              rotate_left
              · simp only [Act.put, List.setIfInBounds_toArray, List.set_cons_zero, List.set_cons_succ]
                rfl
              refine pure_ (i := 33) (N := some 119) (v := undef) (a' := ?_) #[true, true, true, true, true, true, true, true, true, true, true, true, true, true, true, true, true, true, true, true, true, true, true, true, true, true, true, true, true, true, true, true, true, true, false, false, false, false] rfl rfl (by kernel_rfl) (fun _ _ _ h => h) (Or.inr ⟨by rfl, rfl⟩) ?_ ?_
              rotate_left
              · simp only [Act.put, List.setIfInBounds_toArray, List.set_cons_zero, List.set_cons_succ]
                rfl
              refine pure_ (i := 34) (N := some 120) (v := undef) (a' := ?_) #[true, true, true, true, true, true, true, true, true, true, true, true, true, true, true, true, true, true, true, true, true, true, true, true, true, true, true, true, true, true, true, true, true, true, true, false, false, false] rfl rfl (by kernel_rfl) (fun _ _ _ h => h) (Or.inr ⟨by rfl, rfl⟩) ?_ ?_
              rotate_left
              · simp only [Act.put, List.setIfInBounds_toArray, List.set_cons_zero, List.set_cons_succ]
                rfl
              refine pure_ (i := 35) (N := some 121) (v := undef) (a' := ?_) #[true, true, true, true, true, true, true, true, true, true, true, true, true, true, true, true, true, true, true, true, true, true, true, true, true, true, true, true, true, true, true, true, true, true, true, true, false, false] rfl rfl (by kernel_rfl) (fun _ _ _ h => h) (Or.inr ⟨by rfl, rfl⟩) ?_ ?_
              rotate_left
              · simp only [Act.put, List.setIfInBounds_toArray, List.set_cons_zero, List.set_cons_succ]
                rfl
              refine pure_ (i := 36) (N := some 122) (v := ?_) (a' := ?_) #[true, true, true, true, true, true, true, true, true, true, true, true, true, true, true, true, true, true, true, true, true, true, true, true, true, true, true, true, true, true, true, true, true, true, true, true, true, false] rfl rfl (by kernel_rfl) (fun _ _ _ h => h) (Or.inl ⟨by rfl, ?_⟩) ?_ ?_
              rotate_left
              · intro w'
                go_simp
                with_reducible rfl
              rotate_left
              · simp only [Act.put, List.setIfInBounds_toArray, List.set_cons_zero, List.set_cons_succ]
                rfl
              refine pure_ (i := 37) (N := some 123) (v := ?_) (a' := ?_) #[true, true, true, true, true, true, true, true, true, true, true, true, true, true, true, true, true, true, true, true, true, true, true, true, true, true, true, true, true, true, true, true, true, true, true, true, true, true] rfl rfl (by kernel_rfl) (fun _ _ _ h => h) (Or.inl ⟨by rfl, ?_⟩) ?_ ?_
              rotate_left
              · intro w'
                go_simp
                with_reducible rfl
              rotate_left
              · simp only [Act.put, List.setIfInBounds_toArray, List.set_cons_zero, List.set_cons_succ]
                rfl
              refine done_ (by kernel_rfl) ?_
              clear hHeld
              go_wp2
              go_roundg k1
              case measure => have := HJ.out; omega
              case rel => exact ⟨j + 1, by have := HJJ.out; have := HN.out; rw [w1 j (by omega)], ⟨by have := HJ.out; omega, by have := HJJ.out; omega⟩, ⟨fun h => absurd HJN.out (by omega)⟩, ⟨B6.out.trans (DH_3.out.mono (by have := GL.out; omega))⟩⟩
          · have hlt : ((j : Int) < (n : Int)) = False := eq_false (by omega)
            go_wp2
            go_ret
            exact ⟨rfl, BA.out.trans (BW.out.mono BA.out.size)⟩
    · have z0 : (chkS a b ms d != 0) = true := bne_iff_ne.mpr h0
      clear h0
      generalize chkS a b ms d = ck at *
      go_wp2_with (fail)
      refine (awk_calls _).mono ?_
      rintro e w3 ⟨rfl, hb⟩
      have B3 := Aside0.mk (B2.out.trans (hb.mono B2.out.size))
      have X3 := Aside0.mk ((B3.out.block _ LX.out).trans XA.out)
      clear hb X2 B2 eX2_0 eX2_1 eX2_2 eX2_3
      have eX3_0 := (blk_cell X3.out 0).trans rfl
      have eX3_1 := (blk_cell X3.out 1).trans rfl
      have eX3_2 := (blk_cell X3.out 2).trans rfl
      have eX3_3 := (blk_cell X3.out 3).trans rfl
      go_wp2_with (fail)
      refine (ref_calls a b A ms.length c d _).mono ?_
      rintro e w4 ⟨rfl, hb⟩
      have B4 := Aside0.mk (B3.out.trans (hb.mono B3.out.size))
      clear hb X3 B3 eX3_0 eX3_1 eX3_2 eX3_3
      go_wp2_with (fail)
      refine (stowageref07_Check.calls kr a b A c ms d ck _ (Kd.C_below CA.out B4.out) HCC.out HKR.out).mono ?_
      rintro e w5 ⟨rfl, hb⟩
      have B5 := Aside0.mk (B4.out.trans (hb.mono B4.out.size))
      clear hb
      go_wp2
      go_ret
      exact ⟨rfl, BA.out.trans (B5.out.mono BA.out.size)⟩
theorem w_ShotWhole (W : World) (cs0 : Array Value) (a0 : S24) (K0 : k24.K W a0 cs0.toList) (g0 : ((Lit.int .i64 a0.f0).wf = true ∧ ((Lit.int .i64 a0.f1).wf = true ∧ ((a0.f2.length * 8 ≤ 140737488351232 ∧ ∀ y0 ∈ a0.f2, (Lit.int .i64 y0).wf = true) ∧ a0.f3.size ≤ 140737488351232)))) (a1 : Int) (g1 : (Lit.int .i64 a1).wf = true) (A2 : Option Addr) (c2 : Nat) (a2 : (List Int)) (l2 : a2.length ≤ c2) (C2 : Kd.C (Kd.int .i64) W A2 a2.length a2) (g2 : (a2.length * 8 ≤ 140737488351232 ∧ ∀ y0 ∈ a2, (Lit.int .i64 y0).wf = true)) :
    Calls Try.prog 9 #[.agg cs0, .int .i64 a1, .slice A2 a2.length c2] W fun e w' => e = .returned (.bool true) ∧ Below W.heap.size W w' := by
  obtain ⟨A, c, rfl, hl, hC⟩ := k24_agg K0
  exact walkShotWhole W A c a0.f0 a0.f1 a0.f2 a0.f3 hC hl (by have := g0.2.2.1.1; omega) a1 A2 c2 a2 C2 (by have := g2.1; omega)
end Go.Proofs.Ythjfofgcikfepaa.Q
