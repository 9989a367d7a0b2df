/- The disk's outer calls, and the worked example. -/
import Derived.Outline
import Derived.Test.YtabngibognlmoaaDk1
import Derived.Test.YtabngibognlmoaaQn
namespace Go.Proofs.Ytabngibognlmoaa.Q
open Go.Maps Go.WideShapes Go.WideMaps Go.RowKit Go.Proofs.YtabngibognlmoaaW.PrintWords Go.Proofs.YtabngibognlmoaaW.PrintLast Go.Proofs.YtabngibognlmoaaW.PrintMore
set_option linter.unusedVariables false
set_option linter.unusedSimpArgs false
set_option maxHeartbeats 10000000
set_option maxRecDepth 100000
theorem fin_fail {w w6 w8 : World} {d : Nat} {ok : Nat → Prop} {st : DK} {bs bn : Nat} {vw vf : Value} {F : Fs} {keep torn : Int} (h : IsDL w8 d ok { st with sure := F } bs bn vw vf) (hO : OwnF w8 w6.heap.size F.length F) (hnew : ∀ k, w.heap.size ≤ k → ok k) (hK : Kp ok w w8) (hs : w.heap.size ≤ w6.heap.size)
    (hF : failK st keep torn = { st with sure := failF st keep torn, now := failF st keep torn, wait := [], down := true }) (hE : F = failF st keep torn) (hne : bs ≠ w6.heap.size) (hst : st.down = false) :
    Ending.returned (Value.tuple #[]) = Ending.returned (Value.tuple #[]) ∧ IsD (((w8.setCell ⟨d, 1, none⟩ (.map (some w6.heap.size))).setCell ⟨d, 2, none⟩ (.slice none 0 0)).setCell ⟨d, 4, none⟩ (.bool true)) d ok (failK st keep torn) ∧ Kp ok w (((w8.setCell ⟨d, 1, none⟩ (.map (some w6.heap.size))).setCell ⟨d, 2, none⟩ (.slice none 0 0)).setCell ⟨d, 4, none⟩ (.bool true)) := by
  have h1 := h.set (st' := { st with sure := F, now := F }) (bn' := w6.heap.size) 1 (.map (some w6.heap.size)) (blk_put (cs := #[.map (some bs), .map (some bn), vw, .int .i64 st.count, .bool st.down, vf, .int .i64 st.room]) h.blk 1 _ rfl) h.sure hO hne h.oks (hnew _ hs) h.wait h.falls
  have h2 := h1.set (st' := { st with sure := F, now := F, wait := [] }) (vw' := .slice none 0 0) 2 (.slice none 0 0) (blk_put (cs := #[.map (some bs), .map (some w6.heap.size), vw, .int .i64 st.count, .bool st.down, vf, .int .i64 st.room]) h1.blk 2 _ rfl) h1.sure h1.now hne h1.oks h1.okn (Kd.R_nil _ _ _ _ _) h1.falls
  have h3 := h2.set (st' := { st with sure := F, now := F, wait := [], down := true }) 4 (.bool true) (blk_put (cs := #[.map (some bs), .map (some w6.heap.size), .slice none 0 0, .int .i64 st.count, .bool st.down, vf, .int .i64 st.room]) h2.blk 4 _ rfl) h2.sure h2.now hne h2.oks h2.okn h2.wait h2.falls
  refine ⟨rfl, ?_, ((hK.set h.okd _).set h.okd _).set h.okd _⟩
  rw [hF, ← hE]
  exact ⟨_, _, _, _, h3⟩
theorem fail_calls {w : World} {d : Nat} {ok : Nat → Prop} {st : DK} (h : IsD w d ok st) (hnew : ∀ k, w.heap.size ≤ k → ok k) (hv : Valid st.sure st.wait) (keep torn : Int) :
    Calls Try.prog 16 #[.pointer (some ⟨d, 0, none⟩), .int .i64 keep, .int .i64 torn] w fun e w' => e = .returned (.tuple #[]) ∧ IsD w' d ok (failK st keep torn) ∧ Kp ok w w' := by
  have hu := Try.underlying70
  have huc := Try.underlying74
  cases hd : st.down with
  | true =>
    have H := Aside0.mk h
    have HF : Aside0 (failK st keep torn = st) := ⟨if_pos hd⟩
    have HD := Aside0.mk hd
    clear h hnew hv hd
    go_enter Try.func16, Try.ntmps16
    go_wp2_with (fail)
    refine (down_calls H.out).mono ?_
    rintro e w1 ⟨rfl, rfl⟩
    rw [HD.out]
    go_wp2
    refine bodyPost_ret (results_none rfl _ _ _) rfl ?_
    exact ⟨rfl, by rw [HF.out]; exact H.out, Kp.refl _ _⟩
  | false =>
    have HF : Aside0 (failK st keep torn = { st with sure := failF st keep torn, now := failF st keep torn, wait := [], down := true }) := ⟨if_neg (by rw [hd]; simp)⟩
    have HD := Aside0.mk hd
    have H0 := Aside0.mk h
    obtain ⟨bs, bn, vw, vf, h⟩ := h
    obtain ⟨A, c, rfl, hlc, hC⟩ := Kd.R_reads h.wait
    have HC := Aside0.mk hC
    have HLC := Aside0.mk hlc
    have HM := Aside0.mk (Kd.C_max hC)
    have H := Aside0.mk h
    have HN := Aside0.mk hnew
    have HV := Aside0.mk hv
    have hc2 := h.c2
    obtain ⟨n, hn⟩ : ∃ n, n = clampK keep st.wait.length := ⟨_, rfl⟩
    have hnle : n ≤ st.wait.length := by rw [hn]; unfold clampK; omega
    have hmm : min (max keep 0) (st.wait.length : Int) = (n : Int) := by rw [hn]; unfold clampK; omega
    have HNN := Aside0.mk hn
    have g1 : (0 : Int) ≤ (n : Int) := by omega
    have g2 : (n : Int) ≤ (c : Int) := by omega
    clear h hnew hv hd hC hn
    go_enter Try.func16, Try.ntmps16
    go_wp2_with (fail)
    refine (down_calls H0.out).mono ?_
    rintro e w1 ⟨rfl, rfl⟩
    rw [HD.out]
    go_wp2_with (fail)
    go_loopg [7, 26] (n + 1) (fun kq v7 v26 w' => ∃ (j : Nat), v26 = .int .i64 (j : Int) ∧ Aside0 (j + kq = n + 1 ∧ j ≤ n) ∧ Aside0 (IsDL w' d ok { st with sure := (st.wait.take j).foldl doC st.sure } bs bn (.slice A st.wait.length c) vf) ∧ Aside0 (Kp ok w1 w'))
    case atStart => exact ⟨0, rfl, ⟨by omega, by omega⟩, ⟨H.out⟩, ⟨Kp.refl _ _⟩⟩
    case round =>
      obtain ⟨j, rfl, HJ, HI, HK⟩ := hrel
      clear hc2 hmm
      cases gk with
      | zero => have := HJ.out; omega
      | succ k1 =>
        have hn3 := hnle
        by_cases hj : j < n
        · have hlt : ((j : Int) < (n : Int)) = True := eq_true (by omega)
          have hi := HI.out
          obtain ⟨A', c', hA', _, hC'⟩ := Kd.R_reads hi.wait
          injection hA' with hA1 hA2 hA3
          subst hA1
          obtain ⟨ad, e, h0, h1, h2, h3, h4⟩ := at_C hC' j (by omega)
          subst e
          have hx : st.wait[j]? = some (st.wait.getD j zC) := by rw [List.getD_eq_getElem?_getD, List.getElem?_eq_getElem (by omega)]; rfl
          have HX := Aside0.mk hx
          have HOK := Aside0.mk (HV.out.at hx)
          obtain ⟨x, hxx⟩ : ∃ x, x = st.wait.getD j zC := ⟨_, rfl⟩
          rw [← hxx] at h0 h1 h2 h3 h4
          have HXX := Aside0.mk hxx
          have c0 := hi.c0
          clear hi hC' hx hxx hA2 hA3
          go_wp2_with (fail)
          have H5 := Aside0.mk (HI.out.alloc (.cells #[.int .i64 x.kind, .string x.name, .string x.dest, .string x.s, .int .i64 x.long] 74 (0, 0)))
          have k0 := H5.out.c0
          have b0 := (blk_cell (heap_alloc_new wr (.cells #[.int .i64 x.kind, .string x.name, .string x.dest, .string x.s, .int .i64 x.long] 74 (0, 0))) 0).trans rfl
          have b1 := (blk_cell (heap_alloc_new wr (.cells #[.int .i64 x.kind, .string x.name, .string x.dest, .string x.s, .int .i64 x.long] 74 (0, 0))) 1).trans rfl
          have b2 := (blk_cell (heap_alloc_new wr (.cells #[.int .i64 x.kind, .string x.name, .string x.dest, .string x.s, .int .i64 x.long] 74 (0, 0))) 2).trans rfl
          have b3 := (blk_cell (heap_alloc_new wr (.cells #[.int .i64 x.kind, .string x.name, .string x.dest, .string x.s, .int .i64 x.long] 74 (0, 0))) 3).trans rfl
          have b4 := (blk_cell (heap_alloc_new wr (.cells #[.int .i64 x.kind, .string x.name, .string x.dest, .string x.s, .int .i64 x.long] 74 (0, 0))) 4).trans rfl
          have NE0 : Aside0 (d ≠ bs) := ⟨HI.out.ned.1⟩
          have NE1 : Aside0 (wr.heap.size ≠ bs) := ⟨by have := HI.out.sure.lt; omega⟩
          have HK5 : Aside0 (Kp ok w1 (wr.alloc (.cells #[.int .i64 x.kind, .string x.name, .string x.dest, .string x.s, .int .i64 x.long] 74 (0, 0))).drew) := ⟨(HK.out.alloc _).drew⟩
          clear c0 h0 h1 h2 h3 h4
          go_region_held3 (fun w' => w'.cell? ⟨d, 0, none⟩ = some (.map (some bs)) ∧ w'.cell? ⟨wr.heap.size, 0, none⟩ = some (.int .i64 x.kind) ∧ w'.cell? ⟨wr.heap.size, 1, none⟩ = some (.string x.name) ∧ w'.cell? ⟨wr.heap.size, 2, none⟩ = some (.string x.dest) ∧ w'.cell? ⟨wr.heap.size, 3, none⟩ = some (.string x.s) ∧ w'.cell? ⟨wr.heap.size, 4, none⟩ = some (.int .i64 x.long)) (go_keep)
            ((go_at_call 41; refine (do_calls2 x H5.out.drew.sure (by rw [HXX.out]; exact HOK.out)).mono ?_; rintro e w' ⟨rfl, hO, hG, hf⟩; have q0 := hf _ _ NE0.out k0; have q1 := hf _ _ NE1.out b0; have q2 := hf _ _ NE1.out b1; have q3 := hf _ _ NE1.out b2; have q4 := hf _ _ NE1.out b3; have q5 := hf _ _ NE1.out b4; have H6 := Aside0.mk (H5.out.drew.maps hG hO); have K6 := Aside0.mk (HK5.out.trans (Kp.of_grown hG (fun k e => by cases e; exact HI.out.oks))); clear hO hG hf))
          -- ROUND END
          go_wp2
          go_roundg k1
          case measure => have := HJ.out; omega
          case rel => exact ⟨j + 1, by rw [IntWalk.wrap64_in _ (by have := HM.out; omega)]; rfl, ⟨by have := HJ.out; omega, by omega⟩, ⟨by rw [foldl_take _ _ _ _ _ HX.out, ← HXX.out]; exact H6.out⟩, K6⟩
        · obtain rfl : j = n := by have := HJ.out; omega
          have hlt : ((j : Int) < (j : Int)) = False := eq_false (by omega)
          have c2 := HI.out.c2
          by_cases hA : j < st.wait.length
          · have hlt2 : ((j : Int) < (st.wait.length : Int)) = True := eq_true (by omega)
            by_cases hT : 0 < torn
            · have ht1 : (torn > 0) = True := eq_true hT
              have ht2 : (0 < torn) = True := eq_true hT
              have hi := HI.out
              obtain ⟨A', c', hA', _, hC'⟩ := Kd.R_reads hi.wait
              injection hA' with hA1 hA2 hA3
              subst hA1
              obtain ⟨ad, e, h0, h1, h2, h3, h4⟩ := at_C hC' j (by omega)
              subst e
              have hx : st.wait[j]? = some (st.wait.getD j zC) := by rw [List.getD_eq_getElem?_getD, List.getElem?_eq_getElem (by omega)]; rfl
              have HX := Aside0.mk hx
              have HOK := Aside0.mk (HV.out.at hx)
              obtain ⟨x, hxx⟩ : ∃ x, x = st.wait.getD j zC := ⟨_, rfl⟩
              rw [← hxx] at h0 h1 h2 h3 h4
              have HXX := Aside0.mk hxx
              have HT0 := Aside0.mk hT
              have m0 : (0 : Int) ≤ min torn (x.s.size : Int) := by omega
              have m1 : min torn (x.s.size : Int) ≤ (x.s.size : Int) := by omega
              clear hi hC' hx hxx hA2 hA3 hT
              by_cases hk : x.kind = 0
              · have HKO : Aside0 (x.kind = 0 ∨ x.kind = 1) := ⟨Or.inl hk⟩
                rw [hk] at h0
                have HKI := Aside0.mk hk
                go_wp2_with (fail)
                have H5 := Aside0.mk (HI.out.alloc (.cells #[.int .i64 0, .string x.name, .string x.dest, .string (x.s.extract 0 (min torn (x.s.size : Int)).toNat), .int .i64 x.long] 74 (0, 0)))
                have k0 := H5.out.c0
                have b0 := (blk_cell (heap_alloc_new wr (.cells #[.int .i64 0, .string x.name, .string x.dest, .string (x.s.extract 0 (min torn (x.s.size : Int)).toNat), .int .i64 x.long] 74 (0, 0))) 0).trans rfl
                have b1 := (blk_cell (heap_alloc_new wr (.cells #[.int .i64 0, .string x.name, .string x.dest, .string (x.s.extract 0 (min torn (x.s.size : Int)).toNat), .int .i64 x.long] 74 (0, 0))) 1).trans rfl
                have b2 := (blk_cell (heap_alloc_new wr (.cells #[.int .i64 0, .string x.name, .string x.dest, .string (x.s.extract 0 (min torn (x.s.size : Int)).toNat), .int .i64 x.long] 74 (0, 0))) 2).trans rfl
                have b3 := (blk_cell (heap_alloc_new wr (.cells #[.int .i64 0, .string x.name, .string x.dest, .string (x.s.extract 0 (min torn (x.s.size : Int)).toNat), .int .i64 x.long] 74 (0, 0))) 3).trans rfl
                have b4 := (blk_cell (heap_alloc_new wr (.cells #[.int .i64 0, .string x.name, .string x.dest, .string (x.s.extract 0 (min torn (x.s.size : Int)).toNat), .int .i64 x.long] 74 (0, 0))) 4).trans rfl
                have NE0 : Aside0 (d ≠ bs) := ⟨HI.out.ned.1⟩
                have NE1 : Aside0 (wr.heap.size ≠ bs) := ⟨by have := HI.out.sure.lt; omega⟩
                have HK5 : Aside0 (Kp ok w1 (wr.alloc (.cells #[.int .i64 0, .string x.name, .string x.dest, .string (x.s.extract 0 (min torn (x.s.size : Int)).toNat), .int .i64 x.long] 74 (0, 0))).drew) := ⟨(HK.out.alloc _).drew⟩
                have HOT := Aside0.mk (okC_torn (torn := torn) HOK.out (by rw [← HXX.out]; exact HKO.out))
                have hcx : tornC (st.wait.getD j zC) torn = ⟨0, x.name, x.dest, x.s.extract 0 (min torn (x.s.size : Int)).toNat, x.long⟩ := by rw [← HXX.out]; unfold tornC; rw [← HKI.out]
                rw [hcx] at HOT
                have HCX := Aside0.mk hcx
                clear c2 h0 h1 h2 h3 h4 hcx
                go_region_held3 (fun w' => w'.cell? ⟨d, 0, none⟩ = some (.map (some bs)) ∧ w'.cell? ⟨wr.heap.size, 0, none⟩ = some (.int .i64 0) ∧ w'.cell? ⟨wr.heap.size, 1, none⟩ = some (.string x.name) ∧ w'.cell? ⟨wr.heap.size, 2, none⟩ = some (.string x.dest) ∧ w'.cell? ⟨wr.heap.size, 3, none⟩ = some (.string (x.s.extract 0 (min torn (x.s.size : Int)).toNat)) ∧ w'.cell? ⟨wr.heap.size, 4, none⟩ = some (.int .i64 x.long)) (go_keep)
                  ((go_at_call 41; refine (do_calls2 ⟨0, x.name, x.dest, x.s.extract 0 (min torn (x.s.size : Int)).toNat, x.long⟩ H5.out.drew.sure HOT.out).mono ?_; rintro e w' ⟨rfl, hO, hG, hf⟩; have q0 := hf _ _ NE0.out k0; have q1 := hf _ _ NE1.out b0; have q2 := hf _ _ NE1.out b1; have q3 := hf _ _ NE1.out b2; have q4 := hf _ _ NE1.out b3; have q5 := hf _ _ NE1.out b4; have H6 := Aside0.mk (H5.out.drew.maps hG hO); have K6 := Aside0.mk (HK5.out.trans (Kp.of_grown hG (fun k e => by cases e; exact HI.out.oks))); clear hO hG hf))
                have HFE : Aside0 (doC ((st.wait.take j).foldl doC st.sure) ⟨0, x.name, x.dest, x.s.extract 0 (min torn (x.s.size : Int)).toNat, x.long⟩ = failF st keep torn) := ⟨by
                  rw [← HCX.out]; exact (failF_torn HNN.out HX.out HT0.out (by rw [← HXX.out]; exact HKO.out)).symm⟩
                have k0 := H6.out.c0
                go_wp2_with (fail)
                refine (mclone_calls H6.out.sure).mono ?_
                rintro e w8 ⟨rfl, hO, _, hb⟩
                have NE8 : Aside0 (bs ≠ _) := ⟨Nat.ne_of_lt H6.out.sure.lt⟩
                have H8 := Aside0.mk (H6.out.below hb)
                have O8 := Aside0.mk hO
                have B8 := Aside0.mk hb
                have z1 := H8.out.fz 1
                have z2 := H8.out.fz 2
                have z4 := H8.out.fz 4
                have c1 := H8.out.c1
                have c2 := H8.out.c2
                have c4 := H8.out.c4
                clear hO hb
                go_wp2_with (fail)
                go_end0
                exact fin_fail (w6 := _) H8.out O8.out HN.out (K6.out.trans (Kp.of_below B8.out)) K6.out.size HF.out (HFE.out) NE8.out HD.out
              by_cases hk1 : x.kind = 1
              · have hk := hk1
                have HKO : Aside0 (x.kind = 0 ∨ x.kind = 1) := ⟨Or.inr hk1⟩
                rw [hk1] at h0
                clear hk1
                have HKI := Aside0.mk hk
                go_wp2_with (fail)
                have H5 := Aside0.mk (HI.out.alloc (.cells #[.int .i64 1, .string x.name, .string x.dest, .string (x.s.extract 0 (min torn (x.s.size : Int)).toNat), .int .i64 x.long] 74 (0, 0)))
                have k0 := H5.out.c0
                have b0 := (blk_cell (heap_alloc_new wr (.cells #[.int .i64 1, .string x.name, .string x.dest, .string (x.s.extract 0 (min torn (x.s.size : Int)).toNat), .int .i64 x.long] 74 (0, 0))) 0).trans rfl
                have b1 := (blk_cell (heap_alloc_new wr (.cells #[.int .i64 1, .string x.name, .string x.dest, .string (x.s.extract 0 (min torn (x.s.size : Int)).toNat), .int .i64 x.long] 74 (0, 0))) 1).trans rfl
                have b2 := (blk_cell (heap_alloc_new wr (.cells #[.int .i64 1, .string x.name, .string x.dest, .string (x.s.extract 0 (min torn (x.s.size : Int)).toNat), .int .i64 x.long] 74 (0, 0))) 2).trans rfl
                have b3 := (blk_cell (heap_alloc_new wr (.cells #[.int .i64 1, .string x.name, .string x.dest, .string (x.s.extract 0 (min torn (x.s.size : Int)).toNat), .int .i64 x.long] 74 (0, 0))) 3).trans rfl
                have b4 := (blk_cell (heap_alloc_new wr (.cells #[.int .i64 1, .string x.name, .string x.dest, .string (x.s.extract 0 (min torn (x.s.size : Int)).toNat), .int .i64 x.long] 74 (0, 0))) 4).trans rfl
                have NE0 : Aside0 (d ≠ bs) := ⟨HI.out.ned.1⟩
                have NE1 : Aside0 (wr.heap.size ≠ bs) := ⟨by have := HI.out.sure.lt; omega⟩
                have HK5 : Aside0 (Kp ok w1 (wr.alloc (.cells #[.int .i64 1, .string x.name, .string x.dest, .string (x.s.extract 0 (min torn (x.s.size : Int)).toNat), .int .i64 x.long] 74 (0, 0))).drew) := ⟨(HK.out.alloc _).drew⟩
                have HOT := Aside0.mk (okC_torn (torn := torn) HOK.out (by rw [← HXX.out]; exact HKO.out))
                have hcx : tornC (st.wait.getD j zC) torn = ⟨1, x.name, x.dest, x.s.extract 0 (min torn (x.s.size : Int)).toNat, x.long⟩ := by rw [← HXX.out]; unfold tornC; rw [← HKI.out]
                rw [hcx] at HOT
                have HCX := Aside0.mk hcx
                clear c2 h0 h1 h2 h3 h4 hcx
                go_region_held3 (fun w' => w'.cell? ⟨d, 0, none⟩ = some (.map (some bs)) ∧ w'.cell? ⟨wr.heap.size, 0, none⟩ = some (.int .i64 1) ∧ w'.cell? ⟨wr.heap.size, 1, none⟩ = some (.string x.name) ∧ w'.cell? ⟨wr.heap.size, 2, none⟩ = some (.string x.dest) ∧ w'.cell? ⟨wr.heap.size, 3, none⟩ = some (.string (x.s.extract 0 (min torn (x.s.size : Int)).toNat)) ∧ w'.cell? ⟨wr.heap.size, 4, none⟩ = some (.int .i64 x.long)) (go_keep)
                  ((go_at_call 41; refine (do_calls2 ⟨1, x.name, x.dest, x.s.extract 0 (min torn (x.s.size : Int)).toNat, x.long⟩ H5.out.drew.sure HOT.out).mono ?_; rintro e w' ⟨rfl, hO, hG, hf⟩; have q0 := hf _ _ NE0.out k0; have q1 := hf _ _ NE1.out b0; have q2 := hf _ _ NE1.out b1; have q3 := hf _ _ NE1.out b2; have q4 := hf _ _ NE1.out b3; have q5 := hf _ _ NE1.out b4; have H6 := Aside0.mk (H5.out.drew.maps hG hO); have K6 := Aside0.mk (HK5.out.trans (Kp.of_grown hG (fun k e => by cases e; exact HI.out.oks))); clear hO hG hf))
                have HFE : Aside0 (doC ((st.wait.take j).foldl doC st.sure) ⟨1, x.name, x.dest, x.s.extract 0 (min torn (x.s.size : Int)).toNat, x.long⟩ = failF st keep torn) := ⟨by
                  rw [← HCX.out]; exact (failF_torn HNN.out HX.out HT0.out (by rw [← HXX.out]; exact HKO.out)).symm⟩
                have k0 := H6.out.c0
                go_wp2_with (fail)
                refine (mclone_calls H6.out.sure).mono ?_
                rintro e w8 ⟨rfl, hO, _, hb⟩
                have NE8 : Aside0 (bs ≠ _) := ⟨Nat.ne_of_lt H6.out.sure.lt⟩
                have H8 := Aside0.mk (H6.out.below hb)
                have O8 := Aside0.mk hO
                have B8 := Aside0.mk hb
                have z1 := H8.out.fz 1
                have z2 := H8.out.fz 2
                have z4 := H8.out.fz 4
                have c1 := H8.out.c1
                have c2 := H8.out.c2
                have c4 := H8.out.c4
                clear hO hb
                go_wp2_with (fail)
                go_end0
                exact fin_fail (w6 := _) H8.out O8.out HN.out (K6.out.trans (Kp.of_below B8.out)) K6.out.size HF.out (HFE.out) NE8.out HD.out
              have ke0 : (x.kind == 0) = false := beq_eq_false_iff_ne.mpr hk
              have ke1 : (x.kind == 1) = false := beq_eq_false_iff_ne.mpr hk1
              have HFE : Aside0 ((st.wait.take j).foldl doC st.sure = failF st keep torn) := ⟨(failF_other HNN.out HX.out (fun e => e.2.elim (by rw [← HXX.out]; exact hk) (by rw [← HXX.out]; exact hk1))).symm⟩
              have H6 := Aside0.mk (HI.out.alloc (.cells #[.int .i64 x.kind, .string x.name, .string x.dest, .string x.s, .int .i64 x.long] 74 (0, 0)))
              have K6 := Aside0.mk (HK.out.alloc (.cells #[.int .i64 x.kind, .string x.name, .string x.dest, .string x.s, .int .i64 x.long] 74 (0, 0)))
              clear hk hk1
              have k0 := H6.out.c0
              go_wp2_with (fail)
              generalize wr.alloc (.cells #[.int .i64 x.kind, .string x.name, .string x.dest, .string x.s, .int .i64 x.long] 74 (0, 0)) = w6 at H6 K6 k0 ⊢
              refine (mclone_calls H6.out.sure).mono ?_
              rintro e w8 ⟨rfl, hO, _, hb⟩
              have NE8 : Aside0 (bs ≠ _) := ⟨Nat.ne_of_lt H6.out.sure.lt⟩
              have H8 := Aside0.mk (H6.out.below hb)
              have O8 := Aside0.mk hO
              have B8 := Aside0.mk hb
              have z1 := H8.out.fz 1
              have z2 := H8.out.fz 2
              have z4 := H8.out.fz 4
              have c1 := H8.out.c1
              have c2 := H8.out.c2
              have c4 := H8.out.c4
              clear hO hb
              go_wp2_with (fail)
              go_end0
              exact fin_fail (w6 := _) H8.out O8.out HN.out (K6.out.trans (Kp.of_below B8.out)) K6.out.size HF.out (HFE.out) NE8.out HD.out
            · have ht1 : (torn > 0) = False := eq_false (by omega)
              have ht2 : (0 < torn) = False := eq_false (by omega)
              have HFE : Aside0 ((st.wait.take j).foldl doC st.sure = failF st keep torn) := ⟨(failF_none HNN.out (Or.inr hT)).symm⟩
              have k0 := HI.out.c0
              go_wp2_with (fail)
              refine (mclone_calls HI.out.sure).mono ?_
              rintro e w8 ⟨rfl, hO, _, hb⟩
              have NE8 : Aside0 (bs ≠ _) := ⟨Nat.ne_of_lt HI.out.sure.lt⟩
              have H8 := Aside0.mk (HI.out.below hb)
              have O8 := Aside0.mk hO
              have B8 := Aside0.mk hb
              have z1 := H8.out.fz 1
              have z2 := H8.out.fz 2
              have z4 := H8.out.fz 4
              have c1 := H8.out.c1
              have c2 := H8.out.c2
              have c4 := H8.out.c4
              clear hO hb
              go_wp2_with (fail)
              go_end0
              exact fin_fail (w6 := _) H8.out O8.out HN.out (HK.out.trans (Kp.of_below B8.out)) HK.out.size HF.out (HFE.out) NE8.out HD.out
          · have hlt2 : ((j : Int) < (st.wait.length : Int)) = False := eq_false (by omega)
            have HFE : Aside0 ((st.wait.take j).foldl doC st.sure = failF st keep torn) := ⟨(failF_none HNN.out (Or.inl (by omega))).symm⟩
            have k0 := HI.out.c0
            go_wp2_with (fail)
            refine (mclone_calls HI.out.sure).mono ?_
            rintro e w8 ⟨rfl, hO, _, hb⟩
            have NE8 : Aside0 (bs ≠ _) := ⟨Nat.ne_of_lt HI.out.sure.lt⟩
            have H8 := Aside0.mk (HI.out.below hb)
            have O8 := Aside0.mk hO
            have B8 := Aside0.mk hb
            have z1 := H8.out.fz 1
            have z2 := H8.out.fz 2
            have z4 := H8.out.fz 4
            have c1 := H8.out.c1
            have c2 := H8.out.c2
            have c4 := H8.out.c4
            clear hO hb
            go_wp2_with (fail)
            go_end0
            exact fin_fail (w6 := _) H8.out O8.out HN.out (HK.out.trans (Kp.of_below B8.out)) HK.out.size HF.out (HFE.out) NE8.out HD.out
/-! Append, Write, Move, Remove, Cut -/
def roomE (st : DK) (was n : Nat) : Bool := decide (0 ≤ st.room ∧ was < n ∧ st.room < (totF st.now : Int) - was + n)
def appendK (st : DK) (nm s : ByteArray) : DK × Int :=
  if askE st.down [nm] = 0 then if roomE st 0 s.size = true then (st, 22) else changeK st ⟨0, nm, ⟨#[]⟩, s, 0⟩ else (st, askE st.down [nm])
theorem mod_in (n : Int) (h : -9223372036854775808 ≤ n ∧ n ≤ 9223372036854775807) : (n + 9223372036854775808) % 18446744073709551616 - 9223372036854775808 = n := by omega
theorem askE_ok {dn : Bool} {l : List ByteArray} (h : askE dn l = 0) : dn = false ∧ l.all nameS = true := by
  unfold askE at h
  cases dn with
  | true => exact absurd h (by rw [if_pos rfl]; decide)
  | false =>
    rw [if_neg (by simp)] at h
    by_cases h1 : l.all nameS = true
    · exact ⟨rfl, h1⟩
    · rw [if_neg h1] at h; exact absurd h (by decide)
theorem askE_one {dn : Bool} {nm : ByteArray} (h : askE dn [nm] = 0) : dn = false ∧ nameS nm = true := by
  obtain ⟨h1, h2⟩ := askE_ok h
  rw [List.all_cons, Bool.and_eq_true] at h2
  exact ⟨h1, h2.1⟩
section
variable {w : World} {d : Nat} {ok : Nat → Prop} {st : DK}
theorem append_calls0 (h : IsD w d ok st) (hnew : ∀ k, w.heap.size ≤ k → ok k) (nm s : ByteArray) (hs : nm.size ≤ 9223372036854775807) (ht : totF st.now ≤ 4000000000000000000 ∧ s.size ≤ 4000000000000000000) (hc : st.down = false → nameS nm = true → CanC st ⟨0, nm, ⟨#[]⟩, s, 0⟩) (hh : hitI st = none) :
    Calls Try.prog 25 #[.pointer (some ⟨d, 0, none⟩), .string nm, .string s] w fun e w' => e = .returned (.int .i64 (appendK st nm s).2) ∧ IsD w' d ok (appendK st nm s).1 ∧ Kp ok w w' := by
  have hu := Try.underlying70
  have H0 := Aside0.mk h
  obtain ⟨bs, bn, vw, vf, h⟩ := h
  have H := Aside0.mk h
  have HS := Aside0.mk hs
  have HN := Aside0.mk hnew
  have HT := Aside0.mk ht
  have HC := Aside0.mk hc
  have HH := Aside0.mk hh
  clear h hs hnew ht hc hh
  go_enter Try.func25, Try.ntmps25
  go_wp2_with (fail)
  refine (ask_calls d st.down _ 1 [nm] _ ((World.cell?_of_block (Below.heap_alloc w _ d H.out.lt)).trans H.out.c4) (str1 w nm) (fun s hs => by rw [List.mem_singleton] at hs; rw [hs]; exact HS.out)).mono ?_
  rintro e w1 ⟨rfl, n, rfl⟩
  have H1 := Aside0.mk ((H.out.alloc (.cells #[.string nm] 9 (0, 0))).drewN n)
  have B1 : Aside0 (Below w.heap.size w ((w.alloc (.cells #[.string nm] 9 (0, 0))).drewN n)) := ⟨pw_below_drewN (below_alloc (Below.refl _ _) _) n⟩
  generalize (w.alloc (.cells #[.string nm] 9 (0, 0))).drewN n = w1 at H1 B1 ⊢
  by_cases h0 : askE st.down [nm] = 0
  · rw [h0]
    have HE : Aside0 (appendK st nm s = if roomE st 0 s.size = true then (st, 22) else changeK st ⟨0, nm, ⟨#[]⟩, s, 0⟩) := ⟨if_pos h0⟩
    have h0c := Aside0.mk h0
    clear h0
    go_wp2_with (fail)
    have hc := H1.out.drew.c6
    have hc0 := H1.out.c6
    by_cases hs0 : s.size = 0
    · obtain rfl : s = ⟨#[]⟩ := by
        obtain ⟨a⟩ := s
        have : a.size = 0 := hs0
        rw [Array.eq_empty_of_size_eq_zero this]
      have HR : Aside0 (¬ roomE st 0 (⟨#[]⟩ : ByteArray).size = true) := ⟨by unfold roomE; rw [decide_eq_true_iff]; intro e; exact absurd e.2.1 (by decide)⟩
      go_quiet (fail)
      go_wp2_with (fail)
      refine (change_calls0 (st := st) ⟨_, _, _, _, H1.out.drewN _⟩ (fun k hk => HN.out k (Nat.le_trans (pw_below_drewN B1.out _).size hk)) ⟨0, nm, ⟨#[]⟩, ⟨#[]⟩, 0⟩ (HC.out (askE_one h0c.out).1 (askE_one h0c.out).2) HH.out).mono ?_
      rintro e w9 ⟨rfl, hI, hK⟩
      go_wp2
      go_ret
      exact ⟨by rw [HE.out, if_neg HR.out]; rfl, by rw [HE.out, if_neg HR.out]; exact hI, (Kp.of_below (pw_below_drewN B1.out _)).trans hK⟩
    · have hsl : s.toList.isEmpty = false := by rw [ByteArray.toList_eq]; cases hl : s.data.toList with | nil => exact absurd (show s.size = 0 from by rw [← ByteArray.size_data, ← Array.length_toList, hl]; rfl) hs0 | cons _ _ => rfl
      by_cases hr : 0 ≤ st.room
      · have hr1 : (st.room ≥ 0) = True := eq_true hr
        have hd : st.down = false := by
          cases hd : st.down with
          | false => rfl
          | true => have := h0c.out; rw [hd] at this; exact absurd (show (21 : Int) = 0 from this) (by decide)
        have UP := Aside0.mk (used_up hd)
        have HD := Aside0.mk hd
        clear hd
        have HWB : Aside0 (-9223372036854775808 ≤ (totF st.now : Int) + (s.size : Int) ∧ (totF st.now : Int) + (s.size : Int) ≤ 9223372036854775807) := ⟨by have := HT.out; omega⟩
        refine start_ (n := 21) (S := fun w' => w'.cell? ⟨d, 6, none⟩ = some (.int .i64 st.room)) (ds := []) #[false, false, false, false, false, false, false, false, false, false, false, false, false, false, false, false, false, false, false, false, false] (by kernel_rfl) rfl rfl hc (fun hHeld => ?_)
        refine pure_ (i := 0) (N := some 15) (v := ?_) (a' := ?_) #[true, false, false, false, false, false, false, false, false, false, false, false, false, false, false, false, false, false, false, false, false] rfl rfl (by kernel_rfl) (fun _ _ _ h => h) (Or.inl ⟨by rfl, ?_⟩) ?_ ?_
        rotate_left
        · intro w'
          go_simp
          with_reducible rfl
        rotate_left
        · simp only [Act.put, List.setIfInBounds_toArray, List.set_cons_zero, List.set_cons_succ]
          rfl
        refine pure_ (i := 1) (N := some 16) (v := ?_) (a' := ?_) #[true, true, false, false, false, false, false, false, false, false, false, false, false, false, false, false, false, false, false, false, false] rfl rfl (by kernel_rfl) (fun _ _ _ h => h) (Or.inl ⟨by rfl, ?_⟩) ?_ ?_
        rotate_left
        · intro w'
          go_simp
          with_reducible rfl
        rotate_left
        · simp only [Act.put, List.setIfInBounds_toArray, List.set_cons_zero, List.set_cons_succ]
          rfl
        refine pure_ (i := 2) (N := some 17) (v := ?_) (a' := ?_) #[true, true, true, false, false, false, false, false, false, false, false, false, false, false, false, false, false, false, false, false, false] rfl rfl (by kernel_rfl) (fun _ _ _ h => h) (Or.inl ⟨by rfl, ?_⟩) ?_ ?_
        rotate_left
        · intro w'
          go_simp
          with_reducible rfl
        rotate_left
        · simp only [Act.put, List.setIfInBounds_toArray, List.set_cons_zero, List.set_cons_succ]
          rfl
        refine pure_ (i := 3) (N := some 18) (v := ?_) (a' := ?_) #[true, true, true, true, false, false, false, false, false, false, false, false, false, false, false, false, false, false, false, false, false] rfl rfl (by kernel_rfl) (fun _ _ _ h => h) (Or.inl ⟨by rfl, ?_⟩) ?_ ?_
        rotate_left
        · intro w'
          go_simp
          with_reducible rfl
        rotate_left
        · simp only [Act.put, List.setIfInBounds_toArray, List.set_cons_zero, List.set_cons_succ]
          rfl
        refine pure_ (i := 4) (N := some 19) (v := ?_) (a' := ?_) #[true, true, true, true, true, false, false, false, false, false, false, false, false, false, false, false, false, false, false, false, false] rfl rfl (by kernel_rfl) (fun _ _ _ h => h) (Or.inl ⟨by rfl, ?_⟩) ?_ ?_
        rotate_left
        · intro w'
          go_simp
          with_reducible rfl
        rotate_left
        · simp only [Act.put, List.setIfInBounds_toArray, List.set_cons_zero, List.set_cons_succ]
          rfl
        refine pure_ (i := 5) (N := some 20) (v := ?_) (a' := ?_) #[true, true, true, true, true, true, false, false, false, false, false, false, false, false, false, false, false, false, false, false, false] rfl rfl (by kernel_rfl) (fun _ _ _ h => h) (Or.inl ⟨by rfl, ?_⟩) ?_ ?_
        rotate_left
        · intro w'
          go_simp
          with_reducible rfl
        rotate_left
        · simp only [Act.put, List.setIfInBounds_toArray, List.set_cons_zero, List.set_cons_succ]
          rfl
        refine take_ (i := 6) (N := some 21) (v := ?_) (a' := ?_) #[true, true, true, true, true, true, true, false, false, false, false, false, false, false, false, false, false, false, false, false, false] rfl rfl (by kernel_rfl) (fun _ _ _ h => h) (Or.inl ⟨by rfl, ?_⟩) (by first | exact hHeld | assumption) ?_ ?_
        rotate_left
        · rintro w' s0
          go_simp
          with_reducible rfl
        rotate_left
        · simp only [Act.put, List.setIfInBounds_toArray, List.set_cons_zero, List.set_cons_succ]
          rfl
        refine pure_ (i := 7) (N := some 22) (v := ?_) (a' := ?_) #[true, true, true, true, true, true, true, true, false, false, false, false, false, false, false, false, false, false, false, false, false] rfl rfl (by kernel_rfl) (fun _ _ _ h => h) (Or.inl ⟨by rfl, ?_⟩) ?_ ?_
        rotate_left
        · intro w'
          go_simp
          with_reducible rfl
        rotate_left
        · simp only [Act.put, List.setIfInBounds_toArray, List.set_cons_zero, List.set_cons_succ]
          rfl
        refine pure_ (i := 8) (N := some 23) (v := ?_) (a' := ?_) #[true, true, true, true, true, true, true, true, true, false, false, false, false, false, false, false, false, false, false, false, false] rfl rfl (by kernel_rfl) (fun _ _ _ h => h) (Or.inl ⟨by rfl, ?_⟩) ?_ ?_
        rotate_left
        · intro w'
          go_simp
          with_reducible rfl
        rotate_left
        · simp only [Act.put, List.setIfInBounds_toArray, List.set_cons_zero, List.set_cons_succ]
          rfl
        refine pure_ (i := 9) (N := some 24) (v := ?_) (a' := ?_) #[true, true, true, true, true, true, true, true, true, true, false, false, false, false, false, false, false, false, false, false, false] rfl rfl (by kernel_rfl) (fun _ _ _ h => h) (Or.inl ⟨by rfl, ?_⟩) ?_ ?_
        rotate_left
        · intro w'
          go_simp
          with_reducible rfl
        rotate_left
        · simp only [Act.put, List.setIfInBounds_toArray, List.set_cons_zero, List.set_cons_succ]
          rfl
        refine pure_ (i := 10) (N := some 25) (v := ?_) (a' := ?_) #[true, true, true, true, true, true, true, true, true, true, true, false, false, false, false, false, false, false, false, false, false] rfl rfl (by kernel_rfl) (fun _ _ _ h => h) (Or.inl ⟨by rfl, ?_⟩) ?_ ?_
        rotate_left
        · intro w'
          go_simp
          with_reducible rfl
        rotate_left
        · simp only [Act.put, List.setIfInBounds_toArray, List.set_cons_zero, List.set_cons_succ]
          rfl
        refine pure_ (i := 12) (N := some 27) (v := ?_) (a' := ?_) #[true, true, true, true, true, true, true, true, true, true, true, false, true, false, false, false, false, false, false, false, false] rfl rfl (by kernel_rfl) (fun _ _ _ h => h) (Or.inl ⟨by rfl, ?_⟩) ?_ ?_
        rotate_left
        · intro w'
          go_simp
          with_reducible rfl
        rotate_left
        · simp only [Act.put, List.setIfInBounds_toArray, List.set_cons_zero, List.set_cons_succ]
          rfl
        refine pure_ (i := 13) (N := some 28) (v := ?_) (a' := ?_) #[true, true, true, true, true, true, true, true, true, true, true, false, true, true, false, false, false, false, false, false, false] rfl rfl (by kernel_rfl) (fun _ _ _ h => h) (Or.inl ⟨by rfl, ?_⟩) ?_ ?_
        rotate_left
        · intro w'
          go_simp
          with_reducible rfl
        rotate_left
        · simp only [Act.put, List.setIfInBounds_toArray, List.set_cons_zero, List.set_cons_succ]
          rfl
        refine pure_ (i := 15) (N := some 30) (v := ?_) (a' := ?_) #[true, true, true, true, true, true, true, true, true, true, true, false, true, true, false, true, false, false, false, false, false] rfl rfl (by kernel_rfl) (fun _ _ _ h => h) (Or.inl ⟨by rfl, ?_⟩) ?_ ?_
        rotate_left
        · intro w'
          go_simp
          with_reducible rfl
        rotate_left
        · simp only [Act.put, List.setIfInBounds_toArray, List.set_cons_zero, List.set_cons_succ]
          rfl
        refine pure_ (i := 16) (N := some 31) (v := ?_) (a' := ?_) #[true, true, true, true, true, true, true, true, true, true, true, false, true, true, false, true, true, false, false, false, false] rfl rfl (by kernel_rfl) (fun _ _ _ h => h) (Or.inl ⟨by rfl, ?_⟩) ?_ ?_
        rotate_left
        · intro w'
          go_simp
          with_reducible rfl
        rotate_left
        · simp only [Act.put, List.setIfInBounds_toArray, List.set_cons_zero, List.set_cons_succ]
          rfl
        refine pure_ (i := 17) (N := some 32) (v := ?_) (a' := ?_) #[true, true, true, true, true, true, true, true, true, true, true, false, true, true, false, true, true, true, false, false, false] rfl rfl (by kernel_rfl) (fun _ _ _ h => h) (Or.inl ⟨by rfl, ?_⟩) ?_ ?_
        rotate_left
        · intro w'
          go_simp
          with_reducible rfl
        rotate_left
        · simp only [Act.put, List.setIfInBounds_toArray, List.set_cons_zero, List.set_cons_succ]
          rfl
        refine take_ (i := 18) (N := some 33) (v := ?_) (a' := ?_) #[true, true, true, true, true, true, true, true, true, true, true, false, true, true, false, true, true, true, true, false, false] rfl rfl (by kernel_rfl) (fun _ _ _ h => h) (Or.inl ⟨by rfl, ?_⟩) (by first | exact hHeld | assumption) ?_ ?_
        rotate_left
        · rintro w' s0
          go_simp
          with_reducible rfl
        rotate_left
        · simp only [Act.put, List.setIfInBounds_toArray, List.set_cons_zero, List.set_cons_succ]
          rfl
        refine one_ (i := 11) (N := some 26) #[true, true, true, true, true, true, true, true, true, true, true, true, true, true, false, true, true, true, true, false, false] rfl rfl (by kernel_rfl) (by decide) (fun K hK => ?_)
        refine call_ 22 #[.pointer (some ⟨d, 0, none⟩)] (by rfl) rfl (by first | (go_simp; done) | (go_simp; rfl)) ?_
        refine (used_calls (st := st) (ok := ok) ⟨_, _, _, _, H1.out.drew⟩ (by have := HT.out.1; omega)).mono ?_
        rintro e w2 ⟨rfl, hb⟩
        rw [UP.out]
        have H2 := Aside0.mk (H1.out.drew.below hb)
        have B2 : Aside0 (Below w.heap.size w w2) := ⟨B1.out.drew.trans (hb.mono B1.out.size)⟩
        have hc2 := H2.out.c6
        clear hb
        refine ⟨_, rfl, hK.out _ _ hc2 (fun hHeld => ?_)⟩
        clear hK K hc
        refine norm_ (a' := ?_) ?_ ?_
        rotate_left
        · show Act.put _ (some 26) _ = _
          simp only [Act.put, List.setIfInBounds_toArray, List.set_cons_zero, List.set_cons_succ]
          rfl
        refine pure_ (i := 14) (N := some 29) (v := ?_) (a' := ?_) #[true, true, true, true, true, true, true, true, true, true, true, true, true, true, true, true, true, true, true, false, false] rfl rfl (by kernel_rfl) (fun _ _ _ h => h) (Or.inl ⟨by rfl, ?_⟩) ?_ ?_
        rotate_left
        · intro w'
          go_simp
          with_reducible rfl
        rotate_left
        · simp only [Act.put, List.setIfInBounds_toArray, List.set_cons_zero, List.set_cons_succ]
          rfl
        refine pure_ (i := 19) (N := some 34) (v := ?_) (a' := ?_) #[true, true, true, true, true, true, true, true, true, true, true, true, true, true, true, true, true, true, true, true, false] rfl rfl (by kernel_rfl) (fun _ _ _ h => h) (Or.inl ⟨by rfl, ?_⟩) ?_ ?_
        rotate_left
        · intro w'
          go_simp
          with_reducible rfl
        rotate_left
        · simp only [Act.put, List.setIfInBounds_toArray, List.set_cons_zero, List.set_cons_succ]
          rfl
        refine pure_ (i := 20) (N := some 35) (v := ?_) (a' := ?_) #[true, true, true, true, true, true, true, true, true, true, true, true, true, true, true, true, true, true, true, true, true] rfl rfl (by kernel_rfl) (fun _ _ _ h => h) (Or.inl ⟨by rfl, ?_⟩) ?_ ?_
        rotate_left
        · intro w'
          go_simp
          with_reducible rfl
        rotate_left
        · simp only [Act.put, List.setIfInBounds_toArray, List.set_cons_zero, List.set_cons_succ]
          rfl
        refine done_ (by kernel_rfl) ?_
        clear hHeld
        rw [IntKind.wrap_i64, mod_in _ HWB.out]
        have HSZ := Aside0.mk hs0
        clear hs0
        by_cases hf : st.room < (totF st.now : Int) + (s.size : Int)
        · have hf1 : decide (st.room < (totF st.now : Int) + (s.size : Int)) = true := decide_eq_true hf
          have HR : Aside0 (roomE st 0 s.size = true) := ⟨by unfold roomE; rw [decide_eq_true_iff]; have := HSZ.out; omega⟩
          clear hf hr1
          rw [hf1]
          clear hf1
          go_wp2
          go_ret
          exact ⟨by rw [HE.out, if_pos HR.out]; rfl, by rw [HE.out, if_pos HR.out]; exact ⟨_, _, _, _, H2.out⟩, Kp.of_below B2.out⟩
        · have hf1 : decide (st.room < (totF st.now : Int) + (s.size : Int)) = false := decide_eq_false hf
          have HR : Aside0 (¬ roomE st 0 s.size = true) := ⟨by unfold roomE; rw [decide_eq_true_iff]; omega⟩
          clear hf hr1
          rw [hf1]
          clear hf1
          go_wp2_with (fail)
          refine (change_calls0 (st := st) ⟨_, _, _, _, H2.out⟩ (fun k hk => HN.out k (Nat.le_trans B2.out.size hk)) ⟨0, nm, ⟨#[]⟩, s, 0⟩ (HC.out (askE_one h0c.out).1 (askE_one h0c.out).2) HH.out).mono ?_
          rintro e w9 ⟨rfl, hI, hK⟩
          go_wp2
          go_ret
          exact ⟨by rw [HE.out, if_neg HR.out]; rfl, by rw [HE.out, if_neg HR.out]; exact hI, (Kp.of_below B2.out).trans hK⟩
      · have hr1 : (st.room ≥ 0) = False := eq_false (by omega)
        have hr2 : (0 ≤ st.room) = False := eq_false hr
        have hr3 : decide (0 ≤ st.room) = false := decide_eq_false hr
        have HR : Aside0 (¬ roomE st 0 s.size = true) := ⟨by unfold roomE; rw [decide_eq_true_iff]; intro e; exact hr e.1⟩
        go_quiet (fail)
        go_wp2_with (fail)
        refine (change_calls0 (st := st) ⟨_, _, _, _, H1.out.drewN _⟩ (fun k hk => HN.out k (Nat.le_trans (pw_below_drewN B1.out _).size hk)) ⟨0, nm, ⟨#[]⟩, s, 0⟩ (HC.out (askE_one h0c.out).1 (askE_one h0c.out).2) HH.out).mono ?_
        rintro e w9 ⟨rfl, hI, hK⟩
        go_wp2
        go_ret
        exact ⟨by rw [HE.out, if_neg HR.out]; rfl, by rw [HE.out, if_neg HR.out]; exact hI, (Kp.of_below (pw_below_drewN B1.out _)).trans hK⟩
  · have HE : Aside0 (appendK st nm s = (st, askE st.down [nm])) := ⟨if_neg h0⟩
    have h1 : (askE st.down [nm] != 0) = true := bne_iff_ne.mpr h0
    clear h0
    go_wp2
    go_ret
    exact ⟨by rw [HE.out]; rfl, by rw [HE.out]; exact ⟨_, _, _, _, H1.out⟩, Kp.of_below B1.out⟩
end
/-! the calls on a nil disk -/
theorem nil_Down (w : World)  : Calls Try.prog 35 #[.pointer none] w fun e w' => e = .returned (.bool true) ∧ Below w.heap.size w w' := by
  go_enter Try.func35, Try.ntmps35
  go_wp2
  go_ret
  exact ⟨rfl, Below.refl _ _⟩
theorem nil_Fail (w : World) (a b : Int) : Calls Try.prog 16 #[.pointer none, .int .i64 a, .int .i64 b] w fun e w' => e = .returned (.tuple #[]) ∧ Below w.heap.size w w' := by
  go_enter Try.func16, Try.ntmps16
  go_wp2_with (fail)
  refine (nil_Down w).mono ?_
  rintro e w1 ⟨rfl, hb⟩
  have B := Aside0.mk hb
  clear hb
  go_wp2
  refine bodyPost_ret (results_none rfl _ _ _) rfl ?_
  exact ⟨rfl, B.out⟩
theorem nil_Up (w : World)  : Calls Try.prog 17 #[.pointer none] w fun e w' => e = .returned (.bool false) ∧ Below w.heap.size w w' := by
  go_enter Try.func17, Try.ntmps17
  go_wp2
  go_ret
  exact ⟨rfl, Below.refl _ _⟩
theorem nil_Names (w : World)  : Calls Try.prog 26 #[.pointer none] w fun e w' => e = .returned (.slice none 0 0) ∧ Below w.heap.size w w' := by
  go_enter Try.func26, Try.ntmps26
  go_wp2
  go_ret
  exact ⟨rfl, Below.refl _ _⟩
theorem nil_Used (w : World)  : Calls Try.prog 22 #[.pointer none] w fun e w' => e = .returned (.int .i64 0) ∧ Below w.heap.size w w' := by
  go_enter Try.func22, Try.ntmps22
  go_wp2
  go_ret
  exact ⟨rfl, Below.refl _ _⟩
theorem nil_Changes (w : World)  : Calls Try.prog 13 #[.pointer none] w fun e w' => e = .returned (.int .i64 0) ∧ Below w.heap.size w w' := by
  go_enter Try.func13, Try.ntmps13
  go_wp2
  go_ret
  exact ⟨rfl, Below.refl _ _⟩
theorem nil_Waits (w : World)  : Calls Try.prog 27 #[.pointer none] w fun e w' => e = .returned (.int .i64 0) ∧ Below w.heap.size w w' := by
  go_enter Try.func27, Try.ntmps27
  go_wp2
  go_ret
  exact ⟨rfl, Below.refl _ _⟩
theorem nil_Clone (w : World)  : Calls Try.prog 36 #[.pointer none] w fun e w' => e = .returned (.pointer none) ∧ Below w.heap.size w w' := by
  go_enter Try.func36, Try.ntmps36
  go_wp2
  go_ret
  exact ⟨rfl, Below.refl _ _⟩
theorem nil_Plan (w : World) (v : Value) : Calls Try.prog 14 #[.pointer none, v] w fun e w' => e = .returned (.tuple #[]) ∧ Below w.heap.size w w' := by
  go_enter Try.func14, Try.ntmps14
  go_wp2
  go_end0
  exact ⟨rfl, Below.refl _ _⟩
theorem nil_Room (w : World) (n : Int) : Calls Try.prog 19 #[.pointer none, .int .i64 n] w fun e w' => e = .returned (.tuple #[]) ∧ Below w.heap.size w w' := by
  go_enter Try.func19, Try.ntmps19
  go_wp2
  go_end0
  exact ⟨rfl, Below.refl _ _⟩
theorem nil_ask (w : World) (v : Value) : Calls Try.prog 37 #[.pointer none, v] w fun e w' => e = .returned (.int .i64 21) ∧ Below w.heap.size w w' := by
  go_enter Try.func37, Try.ntmps37
  go_wp2
  go_ret
  exact ⟨rfl, Below.refl _ _⟩
theorem nil_Read (w : World) (a : ByteArray) : Calls Try.prog 18 #[.pointer none, .string a] w fun e w' => e = .returned (.tuple #[.string ⟨#[]⟩, .int .i64 21]) ∧ Below w.heap.size w w' := by
  go_enter Try.func18, Try.ntmps18
  go_wp2_with (fail)
  refine (nil_ask (w.alloc (.cells #[.string a] 9 (0, 0))) _).mono ?_
  rintro e w1 ⟨rfl, hb⟩
  have B : Aside0 (Below w.heap.size w w1) := ⟨(below_alloc (Below.refl _ _) _ : Below w.heap.size w (w.alloc (.cells #[.string a] 9 (0, 0)))).trans (hb.mono ((below_alloc (Below.refl w.heap.size w) _).size))⟩
  clear hb
  go_wp2
  go_ret2
  exact ⟨rfl, B.out⟩
theorem nil_Append (w : World) (a b : ByteArray) : Calls Try.prog 25 #[.pointer none, .string a, .string b] w fun e w' => e = .returned (.int .i64 21) ∧ Below w.heap.size w w' := by
  go_enter Try.func25, Try.ntmps25
  go_wp2_with (fail)
  refine (nil_ask (w.alloc (.cells #[.string a] 9 (0, 0))) _).mono ?_
  rintro e w1 ⟨rfl, hb⟩
  have B : Aside0 (Below w.heap.size w w1) := ⟨(below_alloc (Below.refl _ _) _ : Below w.heap.size w (w.alloc (.cells #[.string a] 9 (0, 0)))).trans (hb.mono ((below_alloc (Below.refl w.heap.size w) _).size))⟩
  clear hb
  go_wp2
  go_ret
  exact ⟨rfl, B.out⟩
theorem nil_Write (w : World) (a b : ByteArray) : Calls Try.prog 11 #[.pointer none, .string a, .string b] w fun e w' => e = .returned (.int .i64 21) ∧ Below w.heap.size w w' := by
  go_enter Try.func11, Try.ntmps11
  go_wp2_with (fail)
  refine (nil_ask (w.alloc (.cells #[.string a] 9 (0, 0))) _).mono ?_
  rintro e w1 ⟨rfl, hb⟩
  have B : Aside0 (Below w.heap.size w w1) := ⟨(below_alloc (Below.refl _ _) _ : Below w.heap.size w (w.alloc (.cells #[.string a] 9 (0, 0)))).trans (hb.mono ((below_alloc (Below.refl w.heap.size w) _).size))⟩
  clear hb
  go_wp2
  go_ret
  exact ⟨rfl, B.out⟩
theorem nil_Move (w : World) (a b : ByteArray) : Calls Try.prog 15 #[.pointer none, .string a, .string b] w fun e w' => e = .returned (.int .i64 21) ∧ Below w.heap.size w w' := by
  go_enter Try.func15, Try.ntmps15
  go_wp2_with (fail)
  refine (nil_ask (w.alloc (.cells #[.string a, .string b] 9 (0, 0))) _).mono ?_
  rintro e w1 ⟨rfl, hb⟩
  have B : Aside0 (Below w.heap.size w w1) := ⟨(below_alloc (Below.refl _ _) _ : Below w.heap.size w (w.alloc (.cells #[.string a, .string b] 9 (0, 0)))).trans (hb.mono ((below_alloc (Below.refl w.heap.size w) _).size))⟩
  clear hb
  go_wp2
  go_ret
  exact ⟨rfl, B.out⟩
theorem nil_Remove (w : World) (a : ByteArray) : Calls Try.prog 33 #[.pointer none, .string a] w fun e w' => e = .returned (.int .i64 21) ∧ Below w.heap.size w w' := by
  go_enter Try.func33, Try.ntmps33
  go_wp2_with (fail)
  refine (nil_ask (w.alloc (.cells #[.string a] 9 (0, 0))) _).mono ?_
  rintro e w1 ⟨rfl, hb⟩
  have B : Aside0 (Below w.heap.size w w1) := ⟨(below_alloc (Below.refl _ _) _ : Below w.heap.size w (w.alloc (.cells #[.string a] 9 (0, 0)))).trans (hb.mono ((below_alloc (Below.refl w.heap.size w) _).size))⟩
  clear hb
  go_wp2
  go_ret
  exact ⟨rfl, B.out⟩
theorem nil_Cut (w : World) (a : ByteArray) (n : Int) : Calls Try.prog 34 #[.pointer none, .string a, .int .i64 n] w fun e w' => e = .returned (.int .i64 21) ∧ Below w.heap.size w w' := by
  go_enter Try.func34, Try.ntmps34
  go_wp2_with (fail)
  refine (nil_ask (w.alloc (.cells #[.string a] 9 (0, 0))) _).mono ?_
  rintro e w1 ⟨rfl, hb⟩
  have B : Aside0 (Below w.heap.size w w1) := ⟨(below_alloc (Below.refl _ _) _ : Below w.heap.size w (w.alloc (.cells #[.string a] 9 (0, 0)))).trans (hb.mono ((below_alloc (Below.refl w.heap.size w) _).size))⟩
  clear hb
  go_wp2
  go_ret
  exact ⟨rfl, B.out⟩
theorem nil_Sync (w : World)  : Calls Try.prog 12 #[.pointer none] w fun e w' => e = .returned (.int .i64 21) ∧ Below w.heap.size w w' := by
  go_enter Try.func12, Try.ntmps12
  go_wp2_with (fail)
  refine (nil_ask w _).mono ?_
  rintro e w1 ⟨rfl, hb⟩
  have B : Aside0 (Below w.heap.size w w1) := ⟨(Below.refl _ _ : Below w.heap.size w w).trans (hb.mono (Nat.le_refl _))⟩
  clear hb
  go_wp2
  go_ret
  exact ⟨rfl, B.out⟩
/-! the worked example of the laws -/
abbrev nA : ByteArray := ⟨#[97]⟩
abbrev nXY : ByteArray := ⟨#[120, 121]⟩
abbrev nX : ByteArray := ⟨#[120]⟩
def aw1 : DK := ⟨[], [(nA, nXY)], [⟨0, nA, ⟨#[]⟩, nXY, 0⟩], 1, false, [], -1⟩
def aw2 : DK := ⟨[(nA, nX)], [(nA, nX)], [], 1, true, [], -1⟩
theorem aw_name : nameS nA = true := by decide +kernel
theorem aw_append : appendK newK nA nXY = (aw1, 0) := by kernel_rfl
theorem aw_fail : failK aw1 0 1 = aw2 := by kernel_rfl
theorem aw_read : readS { aw2 with down := false } nA = nX ∧ readE { aw2 with down := false } nA = 0 := by constructor <;> kernel_rfl
theorem aw_can : CanC newK ⟨0, nA, ⟨#[]⟩, nXY, 0⟩ := by
  have h : OkC [] (⟨0, nA, ⟨#[]⟩, nXY, 0⟩ : Chg) := ⟨by decide, by decide, by decide, by decide, by decide, fun e => absurd e (by decide)⟩
  exact ⟨h, by decide, by decide, by decide, h, trivial⟩
theorem awake_calls (w : World) : Calls Try.prog 10 #[] w fun e w' => e = .returned (.bool true) ∧ Below w.heap.size w w' := by
  go_enter Try.func10, Try.ntmps10
  go_wp2_with (fail)
  refine (new_calls w).mono ?_
  rintro e w1 ⟨d, rfl, hI, hb⟩
  have B1 := Aside0.mk hb
  have I1 := Aside0.mk hI
  clear hb hI
  go_wp2_with (fail)
  refine (append_calls0 I1.out (fun k hk => Nat.le_trans B1.out.size hk) nA nXY (by decide) (by decide) (fun _ _ => aw_can) rfl).mono ?_
  rintro e w2 ⟨rfl, hI, hb⟩
  rw [aw_append] at hI ⊢
  have B2 := Aside0.mk (B1.out.trans (hb.below B1.out.size))
  have I2 := Aside0.mk hI
  clear hb hI I1 B1
  go_wp2_with (fail)
  refine (fail_calls I2.out (fun k hk => Nat.le_trans B2.out.size hk) ⟨aw_can.ok, trivial⟩ 0 1).mono ?_
  rintro e w3 ⟨rfl, hI, hb⟩
  rw [aw_fail] at hI
  have B3 := Aside0.mk (B2.out.trans (hb.below B2.out.size))
  have I3 := Aside0.mk hI
  clear hb hI I2 B2
  go_wp2_with (fail)
  refine (up_calls I3.out).mono ?_
  rintro e w4 ⟨rfl, hI, hb⟩
  have B4 := Aside0.mk (B3.out.trans (hb.below B3.out.size))
  have I4 := Aside0.mk hI
  clear hb hI I3 B3
  go_wp2_with (fail)
  refine (read_calls I4.out nA (by decide)).mono ?_
  rintro e w5 ⟨rfl, hb⟩
  have B5 := Aside0.mk (B4.out.trans (hb.mono B4.out.size))
  clear hb
  rw [aw_read.1, aw_read.2]
  go_wp2
  go_ret
  exact ⟨rfl, B5.out⟩
/-! the document's Name -/
theorem name_ref_go (s : ByteArray) (hs : s.size ≤ 9223372036854775807) : ∀ (d i : Nat), i + d = s.size → Ev (fun k => stowageref04_Name.l0 k s (i : Int)) ((List.range' i d).all (fun j => chN (bt s (j : Nat))))
  | 0, i, h => by
    refine Ev.step (f := fun _ => some true) (fun k => ?_) ⟨0, fun _ _ => by simp⟩
    rw [stowageref04_Name.l0, if_neg (by omega)]
  | d + 1, i, h => by
    refine Ev.step (f := fun k => if chN (bt s i) = true then stowageref04_Name.l0 k s ((i + 1 : Nat) : Int) else some false) (fun k => ?_) ?_
    · rw [stowageref04_Name.l0, if_pos (by omega), if_pos (by omega), w1n i (by omega)]
      generalize bt s i = b
      have dot : (if b = 46 then stowageref04_Name.l0 k s ((i + 1 : Nat) : Int) else if b = 45 then stowageref04_Name.l0 k s ((i + 1 : Nat) : Int) else some false) = if b = 46 ∨ b = 45 then stowageref04_Name.l0 k s ((i + 1 : Nat) : Int) else some false := by
        by_cases h1 : b = 46
        · rw [if_pos h1, if_pos (Or.inl h1)]
        · by_cases h2 : b = 45
          · rw [if_neg h1, if_pos h2, if_pos (Or.inr h2)]
          · rw [if_neg h1, if_neg h2, if_neg (fun e => e.elim h1 h2)]
      rw [dot]
      unfold chN
      by_cases h3 : b = 46 ∨ b = 45
      · have e1 : ¬ b ≥ 97 := by omega
        have e2 : ¬ b ≥ 48 := by omega
        rw [if_neg e1, if_neg e2, if_pos h3, if_pos (by rw [decide_eq_true_iff]; omega)]
      · simp only [if_neg h3]
        by_cases h1 : b ≥ 97
        · rw [if_pos h1, if_pos (by omega)]
          by_cases h2 : b ≤ 122
          · rw [if_pos h2, if_pos (by rw [decide_eq_true_iff]; omega)]
          · rw [if_neg h2, if_neg (by omega), if_neg (by rw [decide_eq_true_iff]; omega)]
        · rw [if_neg h1]
          by_cases h2 : b ≥ 48
          · rw [if_pos h2]
            by_cases h4 : b ≤ 57
            · rw [if_pos h4, if_pos (by rw [decide_eq_true_iff]; omega)]
            · rw [if_neg h4, if_neg (by rw [decide_eq_true_iff]; omega)]
          · rw [if_neg h2, if_neg (by rw [decide_eq_true_iff]; omega)]
    · rw [List.range'_succ, List.all_cons]
      refine Ev.ite (fun hx => ?_) (fun hx => ?_)
      · rw [hx, Bool.true_and]
        exact name_ref_go s hs d (i + 1) (by omega)
      · rw [Bool.not_eq_true] at hx
        rw [hx, Bool.false_and]
        exact Ev.now _
theorem name_ref (s : ByteArray) (hs : s.size ≤ 9223372036854775807) : Ev (fun k => stowageref04_Name.f k s) (nameS s) := by
  have hl : s.toList = [] ↔ s.size = 0 := by
    rw [ByteArray.toList_eq]
    obtain ⟨a⟩ := s
    show a.toList = [] ↔ a.size = 0
    rw [← Array.length_toList]
    cases a.toList <;> simp
  have hj : ∀ x : Bool, Ev (fun k => stowageref04_Name.j0 k s x) (if x = true then false else (List.range' 0 s.size).all (fun j => chN (bt s (j : Nat)))) := by
    intro x
    cases x with
    | true => exact Ev.step (f := fun _ => some false) (fun k => by rw [stowageref04_Name.j0, if_pos rfl]) ⟨0, fun _ _ => by simp⟩
    | false => exact Ev.step (f := fun k => stowageref04_Name.l0 k s 0) (fun k => by rw [stowageref04_Name.j0, if_neg (by simp)]) (name_ref_go s hs s.size 0 (by omega))
  unfold nameS
  by_cases h0 : s.size = 0
  · have h1 := Ev.congr (fun k => (if_pos (hl.2 h0) : stowageref04_Name.f k s = stowageref04_Name.j0 k s true)) (hj true)
    rw [decide_eq_false (by omega), Bool.and_false]
    exact h1
  · by_cases h2 : s.size ≤ 80
    · have h1 := Ev.congr (fun k => show stowageref04_Name.f k s = stowageref04_Name.j0 k s false by rw [stowageref04_Name.f, if_neg (fun e => h0 (hl.1 e)), decide_eq_false (by omega)]) (hj false)
      rw [if_neg (by simp)] at h1
      rw [decide_eq_true (by omega), Bool.and_true]
      exact h1
    · have h1 := Ev.congr (fun k => show stowageref04_Name.f k s = stowageref04_Name.j0 k s true by rw [stowageref04_Name.f, if_neg (fun e => h0 (hl.1 e)), decide_eq_true (by omega)]) (hj true)
      rw [if_pos rfl] at h1
      rw [decide_eq_false (by omega), Bool.and_false]
      exact h1
theorem name_ref_calls (s : ByteArray) (hs : s.size ≤ 9223372036854775807) (w : World) : Calls Try.prog 32 #[.string s] w fun e w' => e = .returned (.bool (nameS s)) ∧ Below w.heap.size w w' := by
  obtain ⟨k, hk⟩ := (name_ref s hs).rounds
  refine (stowageref04_Name.calls k s _ w hk).mono fun e w' ⟨h1, h2⟩ => ⟨h1, ?_⟩
  obtain ⟨n, rfl⟩ := h2.out
  exact pw_below_drewN (Below.refl _ _) n
end Go.Proofs.Ytabngibognlmoaa.Q
