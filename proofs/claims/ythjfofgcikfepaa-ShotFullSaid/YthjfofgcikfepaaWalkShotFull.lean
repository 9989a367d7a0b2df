/- ShotFull answers true at every input. -/
import Derived.Outline
import Derived.StillTailTactics
import Derived.Deep.AppendLies
import Derived.Test.YthjfofgcikfepaaShQ
import Derived.Test.YthjfofgcikfepaaShC
namespace Go.Proofs.Ythjfofgcikfepaa.Q
open Go.Maps Go.WideShapes Go.WideMaps Go.RowKit Go.Proofs.YthjfofgcikfepaaW.PrintWords Go.Proofs.YthjfofgcikfepaaW.PrintLast Go.Proofs.YthjfofgcikfepaaW.PrintMore
set_option linter.unusedVariables false
set_option linter.unusedSimpArgs false
set_option maxHeartbeats 10000000
set_option maxRecDepth 100000
/-! ShotFull -/
theorem walkShotFull (w : World) (A : Option Addr) (c : Nat) (a b : Int) (ms : List Int) (d : ByteArray) (hC : Kd.C (Kd.int .i64) w A ms.length ms) (hc : ms.length ≤ c) (hl : ms.length ≤ 1000000000000000000)
    (A' : Option Addr) (c' : Nat) (a' b' : Int) (ms' : List Int) (d' : ByteArray) (hC' : Kd.C (Kd.int .i64) w A' ms'.length ms') (hc' : ms'.length ≤ c') (hl' : ms'.length ≤ 1000000000000000000) (room : Int) :
    Calls Try.prog 5 #[.agg #[.int .i64 a, .int .i64 b, .slice A ms.length c, .string d], .agg #[.int .i64 a', .int .i64 b', .slice A' ms'.length c', .string d'], .int .i64 room] w fun e w' => e = .returned (.bool true) ∧ Below w.heap.size w w' := by
  have hu := Try.underlying24
  have hu2 := Try.underlying30
  have HCC := Aside0.mk hc
  have HCC' := Aside0.mk hc'
  have HL := Aside0.mk hl
  have HL' := Aside0.mk hl'
  have b1 : Below w.heap.size w (w.alloc (.cells #[.int .i64 a, .int .i64 b, .slice A ms.length c, .string d] 24 (0, 0))) := below_alloc (Below.refl _ _) _
  have b2 : Below (w.alloc (.cells #[.int .i64 a, .int .i64 b, .slice A ms.length c, .string d] 24 (0, 0))).heap.size (w.alloc (.cells #[.int .i64 a, .int .i64 b, .slice A ms.length c, .string d] 24 (0, 0))) ((w.alloc (.cells #[.int .i64 a, .int .i64 b, .slice A ms.length c, .string d] 24 (0, 0))).alloc (.cells #[.int .i64 a', .int .i64 b', .slice A' ms'.length c', .string d'] 24 (0, 0))) := below_alloc (Below.refl _ _) _
  have XA := Aside0.mk (blk_below (heap_alloc_new w (.cells #[.int .i64 a, .int .i64 b, .slice A ms.length c, .string d] 24 (0, 0))) b2)
  have YA : Aside0 (((w.alloc (.cells #[.int .i64 a, .int .i64 b, .slice A ms.length c, .string d] 24 (0, 0))).alloc (.cells #[.int .i64 a', .int .i64 b', .slice A' ms'.length c', .string d'] 24 (0, 0))).heap[w.heap.size + 1]? = some (.cells #[.int .i64 a', .int .i64 b', .slice A' ms'.length c', .string d'] 24 (0, 0))) := ⟨by rw [← alloc_size w (.cells #[.int .i64 a, .int .i64 b, .slice A ms.length c, .string d] 24 (0, 0))]; exact heap_alloc_new _ _⟩
  have BA := Aside0.mk (below_step b1 b2)
  have CA := Aside0.mk (Kd.C_below hC BA.out)
  have CA' := Aside0.mk (Kd.C_below hC' BA.out)
  clear hC hc hl hC' hc' hl' b1 b2
  go_enter Try.func5, Try.ntmps5
  go_wp2_with (fail)
  generalize (w.alloc (.cells #[.int .i64 a, .int .i64 b, .slice A ms.length c, .string d] 24 (0, 0))).alloc (.cells #[.int .i64 a', .int .i64 b', .slice A' ms'.length c', .string d'] 24 (0, 0)) = wA at XA YA BA CA CA' ⊢
  have LX := Aside0.mk (blk_lt XA.out)
  have LY := Aside0.mk (blk_lt YA.out)
  refine (new_calls wA).mono ?_
  rintro e w1 ⟨dd, rfl, hI, hb⟩
  have B1 := Aside0.mk hb
  have I1 : Aside0 (IsD w1 dd (fun k => wA.heap.size ≤ k) (idle none none 0 [] (-1) false)) := ⟨hI⟩
  have X1 := Aside0.mk ((hb.block _ LX.out).trans XA.out)
  clear hb hI
  have eX1_0 := (blk_cell X1.out 0).trans rfl
  have eX1_1 := (blk_cell X1.out 1).trans rfl
  have eX1_2 := (blk_cell X1.out 2).trans rfl
  have eX1_3 := (blk_cell X1.out 3).trans rfl
  go_wp2_with (fail)
  refine (saveA_calls (x := none) (y := none) (n := 0) (f := []) (r := -1) I1.out (fun k hk => Nat.le_trans B1.out.size hk) a b A ms c d (Kd.C_below CA.out B1.out) HCC.out (by decide) (by decide) (by decide)).mono ?_
  rintro e w2 ⟨rfl, hI, hK⟩
  have B2 := Aside0.mk (B1.out.trans (hK.below B1.out.size))
  have I2 := Aside0.mk hI
  clear hI hK I1 B1 X1 eX1_0 eX1_1 eX1_2 eX1_3
  have X2 := Aside0.mk ((B2.out.block _ LX.out).trans XA.out)
  have eX2_0 := (blk_cell X2.out 0).trans rfl
  have eX2_1 := (blk_cell X2.out 1).trans rfl
  have eX2_2 := (blk_cell X2.out 2).trans rfl
  have eX2_3 := (blk_cell X2.out 3).trans rfl
  rcases saveA_nofall none none 0 (-1) a b ms d with ⟨h0, hs⟩ | ⟨h0, hs⟩ | ⟨h0, hs⟩
  · have I3 : Aside0 (IsD w2 dd (fun k => wA.heap.size ≤ k) (idle (some (frameS (shotT a b ms d))) none 2 [] (-1) false)) := ⟨by have := I2.out; rw [hs] at this; exact this⟩
    rw [hs]
    have HF : Aside0 (fileR (frameS (shotT a b ms d)) = ((a, b, ms, d), true, 0)) := ⟨fileR_frame h0⟩
    have HFZ : Aside0 ((frameS (shotT a b ms d)).size ≤ 131190) := ⟨by rw [frameS_size]; have := shotT_size (fineS h0); omega⟩
    clear h0 hs I2
    generalize frameS (shotT a b ms d) = F at I3 HF HFZ ⊢
    go_wp2_with (fail)
    refine (used_calls I3.out (by show totF (snF (some F) none) ≤ _; rw [snF_tot]; show F.size + 0 ≤ _; have := HFZ.out; omega)).mono ?_
    rintro e w4 ⟨rfl, hb⟩
    have B4 := Aside0.mk (B2.out.trans (hb.mono B2.out.size))
    have I4 := Aside0.mk (I3.out.below hb)
    clear hb I3 B2 X2 eX2_0 eX2_1 eX2_2 eX2_3
    go_wp2_with (fail)
    refine (room_calls I4.out _).mono ?_
    rintro e w5 ⟨rfl, hI, hK⟩
    generalize wrap64 (usedS (idle (some F) none 2 [] (-1) false) + (wrap64 (room.tmod 200 + 200)).tmod 200) = rm at hI ⊢
    obtain ⟨r, hr⟩ : ∃ r, r = max rm (-1) := ⟨_, rfl⟩
    have I5 : Aside0 (IsD w5 dd (fun k => wA.heap.size ≤ k) (idle (some F) none 2 [] r false)) := ⟨by rw [hr]; exact hI⟩
    have B5 := Aside0.mk (B4.out.trans (hK.below B4.out.size))
    clear hI hK I4 B4 hr
    have Y5 := Aside0.mk ((B5.out.block _ LY.out).trans YA.out)
    have eY5_0 := (blk_cell Y5.out 0).trans rfl
    have eY5_1 := (blk_cell Y5.out 1).trans rfl
    have eY5_2 := (blk_cell Y5.out 2).trans rfl
    have eY5_3 := (blk_cell Y5.out 3).trans rfl
    go_wp2_with (fail)
    refine (saveA_calls (x := some F) (y := none) (n := 2) (f := []) (r := r) I5.out (fun k hk => Nat.le_trans B5.out.size hk) a' b' A' ms' c' d' (Kd.C_below CA'.out B5.out) HCC'.out (by show F.size + 0 ≤ _; have := HFZ.out; omega) (by decide) (by decide)).mono ?_
    rintro e w6 ⟨rfl, hI, hK⟩
    have B6 := Aside0.mk (B5.out.trans (hK.below B5.out.size))
    have I6 := Aside0.mk hI
    clear hI hK I5 B5 Y5 eY5_0 eY5_1 eY5_2 eY5_3
    rcases saveA_nofall (some F) none 2 r a' b' ms' d' with ⟨h0, hs⟩ | ⟨h0, hs⟩ | ⟨h0, hs⟩
    · have I7 : Aside0 (IsD w6 dd (fun k => wA.heap.size ≤ k) (idle (some (frameS (shotT a' b' ms' d'))) none (2 + 2) [] r false)) := ⟨by have := I6.out; rw [hs] at this; exact this⟩
      rw [hs]
      have HG : Aside0 (fileR (frameS (shotT a' b' ms' d')) = ((a', b', ms', d'), true, 0)) := ⟨fileR_frame h0⟩
      have HGZ : Aside0 ((frameS (shotT a' b' ms' d')).size ≤ 131190) := ⟨by rw [frameS_size]; have := shotT_size (fineS h0); omega⟩
      clear h0 hs I6 HF HFZ
      generalize frameS (shotT a' b' ms' d') = G at I7 HG HGZ ⊢
      go_wp2_with (fail)
      refine (load_calls (x := some G) (y := none) (n := (2 + 2)) (f := []) (r := r) I7.out (fun k hk => Nat.le_trans B6.out.size hk) (by show G.size ≤ _; have := HGZ.out; omega) (by show G.size + 0 ≤ _; have := HGZ.out; omega) (by decide) (by decide) ((a', b', ms', d'), true, 0) (by rw [load_none]; exact HG.out.symm)).mono ?_
      rintro e w7 ⟨v, rfl, hR, hI, hK⟩
      obtain ⟨As, cs, rfl, hlcs, hCs⟩ := Kd.R_reads hR
      have B7 := Aside0.mk (B6.out.trans (hK.below B6.out.size))
      have LCS := Aside0.mk hlcs
      have NZ : Aside0 (wA.heap.size ≤ w7.heap.size) := ⟨B7.out.size⟩
      have bs : Below w7.heap.size w7 (w7.alloc (.cells #[.int .i64 a', .int .i64 b', .slice As ms'.length cs, .string d'] 24 (0, 0))) := below_alloc (Below.refl _ _) _
      have ZS := Aside0.mk (heap_alloc_new w7 (.cells #[.int .i64 a', .int .i64 b', .slice As ms'.length cs, .string d'] 24 (0, 0)))
      have BS := Aside0.mk (B7.out.trans (bs.mono B7.out.size))
      have HCS := Aside0.mk hCs
      have DS := Aside0.mk bs
      have XS := Aside0.mk ((BS.out.block _ LX.out).trans XA.out)
      have YS := Aside0.mk ((BS.out.block _ LY.out).trans YA.out)
      clear hR hI hK hlcs hCs bs I7 B6 B7
      have eXS_0 := (blk_cell XS.out 0).trans rfl
      have eXS_1 := (blk_cell XS.out 1).trans rfl
      have eXS_2 := (blk_cell XS.out 2).trans rfl
      have eXS_3 := (blk_cell XS.out 3).trans rfl
      go_wp2_with (fail)
      generalize w7.alloc (.cells #[.int .i64 a', .int .i64 b', .slice As ms'.length cs, .string d'] 24 (0, 0)) = ws at ZS BS DS XS YS ⊢
      have LZ := Aside0.mk (blk_lt ZS.out)
      refine (ref_calls a b A ms.length c d ws).mono ?_
      rintro e w8 ⟨rfl, hb⟩
      have B8 := Aside0.mk (BS.out.trans (hb.mono BS.out.size))
      have Z8 := Aside0.mk ((hb.block _ LZ.out).trans ZS.out)
      have D8 := Aside0.mk (DS.out.trans (hb.mono DS.out.size))
      have L8 : Aside0 (w7.heap.size < w8.heap.size) := ⟨Nat.lt_of_lt_of_le LZ.out hb.size⟩
      clear hb ZS DS XS YS BS eXS_0 eXS_1 eXS_2 eXS_3
      have bw : Below w8.heap.size w8 (w8.alloc (.cells #[.int .i64 a, .int .i64 b, .slice A ms.length c, .string d] 30 (0, 0))) := below_alloc (Below.refl _ _) _
      have V9 := Aside0.mk (heap_alloc_new w8 (.cells #[.int .i64 a, .int .i64 b, .slice A ms.length c, .string d] 30 (0, 0)))
      have B9 := Aside0.mk (B8.out.trans (bw.mono B8.out.size))
      have Z9 := Aside0.mk ((bw.block _ L8.out).trans Z8.out)
      have D9 := Aside0.mk (D8.out.trans (bw.mono D8.out.size))
      clear bw Z8 D8
      have Y9 := Aside0.mk ((B9.out.block _ LY.out).trans YA.out)
      have eY9_0 := (blk_cell Y9.out 0).trans rfl
      have eY9_1 := (blk_cell Y9.out 1).trans rfl
      have eY9_2 := (blk_cell Y9.out 2).trans rfl
      have eY9_3 := (blk_cell Y9.out 3).trans rfl
      go_wp2_with (fail)
      generalize w8.alloc (.cells #[.int .i64 a, .int .i64 b, .slice A ms.length c, .string d] 30 (0, 0)) = w9 at V9 B9 Z9 D9 Y9 ⊢
      refine (ref_calls a' b' A' ms'.length c' d' w9).mono ?_
      rintro e w10 ⟨rfl, hb⟩
      have B10 := Aside0.mk (B9.out.trans (hb.mono B9.out.size))
      have Z10 := Aside0.mk ((hb.block _ (blk_lt Z9.out)).trans Z9.out)
      have V10 := Aside0.mk ((hb.block _ (blk_lt V9.out)).trans V9.out)
      have D10 := Aside0.mk (D9.out.trans (hb.mono D9.out.size))
      have L10 : Aside0 (w9.heap.size ≤ w10.heap.size) := ⟨hb.size⟩
      clear hb Y9 B9 Z9 V9 D9 eY9_0 eY9_1 eY9_2 eY9_3
      have eV10_0 := (blk_cell V10.out 0).trans rfl
      have eV10_1 := (blk_cell V10.out 1).trans rfl
      have eV10_2 := (blk_cell V10.out 2).trans rfl
      have eV10_3 := (blk_cell V10.out 3).trans rfl
      have fV10_0 := blk_frozen V10.out 0
      have fV10_1 := blk_frozen V10.out 1
      have fV10_2 := blk_frozen V10.out 2
      have fV10_3 := blk_frozen V10.out 3
      go_upto_region 10 with (fail)
      have VE := Aside0.mk (blk4 V10.out (.int .i64 a') (.int .i64 b') (.slice A' ms'.length c') (.string d'))
      have ZE := Aside0.mk ((far4 w10 w8.heap.size (.int .i64 a') (.int .i64 b') (.slice A' ms'.length c') (.string d') w7.heap.size (by have := L8.out; omega)).trans Z10.out)
      have BE := Aside0.mk (below_far4 B10.out (by have := NZ.out; have := L8.out; omega : wA.heap.size ≤ w8.heap.size) (.int .i64 a') (.int .i64 b') (.slice A' ms'.length c') (.string d'))
      have DE := Aside0.mk (below_far4 D10.out (Nat.le_of_lt L8.out) (.int .i64 a') (.int .i64 b') (.slice A' ms'.length c') (.string d'))
      generalize ((((w10.setCell ⟨w8.heap.size, 0, none⟩ (.int .i64 a')).setCell ⟨w8.heap.size, 1, none⟩ (.int .i64 b')).setCell ⟨w8.heap.size, 2, none⟩ (.slice A' ms'.length c')).setCell ⟨w8.heap.size, 3, none⟩ (.string d')) = wE at VE ZE BE DE ⊢
      clear B10 Z10 V10 D10
      have YE := Aside0.mk ((BE.out.block _ LY.out).trans YA.out)
      have BT := Aside0.mk (BA.out.trans (BE.out.mono BA.out.size))
      obtain ⟨k4, hk4⟩ := (same_ev a' b' ms' d' a' b' ms' d' HL'.out).rounds
      rw [sameS_refl] at hk4
      have HS := Aside0.mk hk4
      clear hk4
      have eZE_0 := (blk_cell ZE.out 0).trans rfl
      have eZE_1 := (blk_cell ZE.out 1).trans rfl
      have eZE_2 := (blk_cell ZE.out 2).trans rfl
      have eZE_3 := (blk_cell ZE.out 3).trans rfl
      have eVE_0 := (blk_cell VE.out 0).trans rfl
      have eVE_1 := (blk_cell VE.out 1).trans rfl
      have eVE_2 := (blk_cell VE.out 2).trans rfl
      have eVE_3 := (blk_cell VE.out 3).trans rfl
      have eYE_0 := (blk_cell YE.out 0).trans rfl
      have eYE_1 := (blk_cell YE.out 1).trans rfl
      have eYE_2 := (blk_cell YE.out 2).trans rfl
      have eYE_3 := (blk_cell YE.out 3).trans rfl
      have ZH_0 := Aside0.mk (blk_drew ZE.out)
      have VH_0 := Aside0.mk (blk_drew VE.out)
      have YH_0 := Aside0.mk (blk_drew YE.out)
      have BH_0 := Aside0.mk (below_drew1 BT.out)
      have DH_0 := Aside0.mk DE.out.drew
      have EH_0 := Aside0.mk BE.out.drew
      clear BT DE BE ZE VE YE XA YA BA
      refine start_ (n := 30) (S := (fun w' => w'.cell? ⟨w7.heap.size, 0, none⟩ = some (.int .i64 a') ∧ w'.cell? ⟨w7.heap.size, 1, none⟩ = some (.int .i64 b') ∧ w'.cell? ⟨w7.heap.size, 2, none⟩ = some (.slice As ms'.length cs) ∧ w'.cell? ⟨w7.heap.size, 3, none⟩ = some (.string d') ∧ w'.cell? ⟨w8.heap.size, 0, none⟩ = some (.int .i64 a') ∧ w'.cell? ⟨w8.heap.size, 1, none⟩ = some (.int .i64 b') ∧ w'.cell? ⟨w8.heap.size, 2, none⟩ = some (.slice A' ms'.length c') ∧ w'.cell? ⟨w8.heap.size, 3, none⟩ = some (.string d') ∧ w'.cell? ⟨w.heap.size + 1, 0, none⟩ = some (.int .i64 a') ∧ w'.cell? ⟨w.heap.size + 1, 1, none⟩ = some (.int .i64 b') ∧ w'.cell? ⟨w.heap.size + 1, 2, none⟩ = some (.slice A' ms'.length c') ∧ w'.cell? ⟨w.heap.size + 1, 3, none⟩ = some (.string d'))) (ds := []) #[false, false, false, false, false, false, false, false, false, false, false, false, false, false, false, false, false, false, false, false, false, false, false, false, false, false, false, false, false, false] (by kernel_rfl) rfl rfl ⟨(blk_cell ZH_0.out 0).trans rfl, (blk_cell ZH_0.out 1).trans rfl, (blk_cell ZH_0.out 2).trans rfl, (blk_cell ZH_0.out 3).trans rfl, (blk_cell VH_0.out 0).trans rfl, (blk_cell VH_0.out 1).trans rfl, (blk_cell VH_0.out 2).trans rfl, (blk_cell VH_0.out 3).trans rfl, (blk_cell YH_0.out 0).trans rfl, (blk_cell YH_0.out 1).trans rfl, (blk_cell YH_0.out 2).trans rfl, (blk_cell YH_0.out 3).trans rfl⟩ (fun hHeld => ?_)
      refine one_ (i := 0) (N := some 48) #[true, false, false, false, false, false, false, false, false, false, false, false, false, false, false, false, false, false, false, false, false, false, false, false, false, false, false, false, false, false] rfl rfl (by kernel_rfl) (by decide) (fun K hK => ?_)
      refine call_ 16 #[] (by rfl) rfl (by first | (go_simp; done) | (go_simp; rfl)) ?_
      refine (awk_calls wE.drew).mono ?_
      rintro e wh1 ⟨rfl, hbh0⟩
      have ZH_1 := Aside0.mk (blk_below ZH_0.out hbh0)
      have VH_1 := Aside0.mk (blk_below VH_0.out hbh0)
      have YH_1 := Aside0.mk (blk_below YH_0.out hbh0)
      have BH_1 := Aside0.mk (below_step BH_0.out hbh0)
      have DH_1 := Aside0.mk (DH_0.out.trans (hbh0.mono DH_0.out.size))
      have EH_1 := Aside0.mk (EH_0.out.trans (hbh0.mono EH_0.out.size))
      clear hbh0
      refine ⟨_, rfl, hK.out _ _ ⟨(blk_cell ZH_1.out 0).trans rfl, (blk_cell ZH_1.out 1).trans rfl, (blk_cell ZH_1.out 2).trans rfl, (blk_cell ZH_1.out 3).trans rfl, (blk_cell VH_1.out 0).trans rfl, (blk_cell VH_1.out 1).trans rfl, (blk_cell VH_1.out 2).trans rfl, (blk_cell VH_1.out 3).trans rfl, (blk_cell YH_1.out 0).trans rfl, (blk_cell YH_1.out 1).trans rfl, (blk_cell YH_1.out 2).trans rfl, (blk_cell YH_1.out 3).trans rfl⟩ (fun hHeld => ?_)⟩
      clear hK K
      refine norm_ (a' := ?_) ?_ ?_
      rotate_left
      · show Act.put _ (some 48) _ = _
        simp only [Act.put, List.setIfInBounds_toArray, List.set_cons_zero, List.set_cons_succ]
        rfl
      refine pure_ (i := 1) (N := some 49) (v := ?_) (a' := ?_) #[true, true, false, false, false, false, false, false, false, false, false, false, false, false, false, false, false, false, false, false, false, false, false, false, false, false, false, false, false, false] rfl rfl (by kernel_rfl) (fun _ _ _ h => h) (Or.inl ⟨by rfl, ?_⟩) ?_ ?_
      rotate_left
      · intro w'
        go_simp
        with_reducible rfl
      rotate_left
      · simp only [Act.put, List.setIfInBounds_toArray, List.set_cons_zero, List.set_cons_succ]
        rfl
      refine pure_ (i := 2) (N := some 50) (v := ?_) (a' := ?_) #[true, true, true, false, false, false, false, false, false, false, false, false, false, false, false, false, false, false, false, false, false, false, false, false, false, false, false, false, false, false] rfl rfl (by kernel_rfl) (fun _ _ _ h => h) (Or.inl ⟨by rfl, ?_⟩) ?_ ?_
      rotate_left
      · intro w'
        go_simp
        with_reducible rfl
      rotate_left
      · simp only [Act.put, List.setIfInBounds_toArray, List.set_cons_zero, List.set_cons_succ]
        rfl
      refine pure_ (i := 3) (N := some 51) (v := ?_) (a' := ?_) #[true, true, true, true, false, false, false, false, false, false, false, false, false, false, false, false, false, false, false, false, false, false, false, false, false, false, false, false, false, false] rfl rfl (by kernel_rfl) (fun _ _ _ h => h) (Or.inl ⟨by rfl, ?_⟩) ?_ ?_
      rotate_left
      · intro w'
        go_simp
        with_reducible rfl
      rotate_left
      · simp only [Act.put, List.setIfInBounds_toArray, List.set_cons_zero, List.set_cons_succ]
        rfl
      refine pure_ (i := 4) (N := some 52) (v := ?_) (a' := ?_) #[true, true, true, true, true, false, false, false, false, false, false, false, false, false, false, false, false, false, false, false, false, false, false, false, false, false, false, false, false, false] rfl rfl (by kernel_rfl) (fun _ _ _ h => h) (Or.inl ⟨by rfl, ?_⟩) ?_ ?_
      rotate_left
      · intro w'
        go_simp
        with_reducible rfl
      rotate_left
      · simp only [Act.put, List.setIfInBounds_toArray, List.set_cons_zero, List.set_cons_succ]
        rfl
      refine pure_ (i := 5) (N := some 53) (v := ?_) (a' := ?_) #[true, true, true, true, true, true, false, false, false, false, false, false, false, false, false, false, false, false, false, false, false, false, false, false, false, false, false, false, false, false] rfl rfl (by kernel_rfl) (fun _ _ _ h => h) (Or.inl ⟨by rfl, ?_⟩) ?_ ?_
      rotate_left
      · intro w'
        go_simp
        with_reducible rfl
      rotate_left
      · simp only [Act.put, List.setIfInBounds_toArray, List.set_cons_zero, List.set_cons_succ]
        rfl
      refine pure_ (i := 6) (N := some 54) (v := ?_) (a' := ?_) #[true, true, true, true, true, true, true, false, false, false, false, false, false, false, false, false, false, false, false, false, false, false, false, false, false, false, false, false, false, false] rfl rfl (by kernel_rfl) (fun _ _ _ h => h) (Or.inl ⟨by rfl, ?_⟩) ?_ ?_
      rotate_left
      · intro w'
        go_simp
        with_reducible rfl
      rotate_left
      · simp only [Act.put, List.setIfInBounds_toArray, List.set_cons_zero, List.set_cons_succ]
        rfl
      refine pure_ (i := 7) (N := some 55) (v := ?_) (a' := ?_) #[true, true, true, true, true, true, true, true, false, false, false, false, false, false, false, false, false, false, false, false, false, false, false, false, false, false, false, false, false, false] rfl rfl (by kernel_rfl) (fun _ _ _ h => h) (Or.inl ⟨by rfl, ?_⟩) ?_ ?_
      rotate_left
      · intro w'
        go_simp
        with_reducible rfl
      rotate_left
      · simp only [Act.put, List.setIfInBounds_toArray, List.set_cons_zero, List.set_cons_succ]
        rfl
      refine pure_ (i := 8) (N := some 56) (v := ?_) (a' := ?_) #[true, true, true, true, true, true, true, true, true, false, false, false, false, false, false, false, false, false, false, false, false, false, false, false, false, false, false, false, false, false] rfl rfl (by kernel_rfl) (fun _ _ _ h => h) (Or.inl ⟨by rfl, ?_⟩) ?_ ?_
      rotate_left
      · intro w'
        go_simp
        with_reducible rfl
      rotate_left
      · simp only [Act.put, List.setIfInBounds_toArray, List.set_cons_zero, List.set_cons_succ]
        rfl
      refine take_ (i := 9) (N := some 57) (v := ?_) (a' := ?_) #[true, true, true, true, true, true, true, true, true, true, false, false, false, false, false, false, false, false, false, false, false, false, false, false, false, false, false, false, false, false] rfl rfl (by kernel_rfl) (fun _ _ _ h => h) (Or.inl ⟨by rfl, ?_⟩) (by first | exact hHeld | assumption) ?_ ?_
      rotate_left
      · rintro w' ⟨s0, s1, s2, s3, s4, s5, s6, s7, s8, s9, s10, s11⟩
        go_simp
        with_reducible rfl
      rotate_left
      · simp only [Act.put, List.setIfInBounds_toArray, List.set_cons_zero, List.set_cons_succ]
        rfl
      refine take_ (i := 11) (N := some 59) (v := ?_) (a' := ?_) #[true, true, true, true, true, true, true, true, true, true, false, true, false, false, false, false, false, false, false, false, false, false, false, false, false, false, false, false, false, false] rfl rfl (by kernel_rfl) (fun _ _ _ h => h) (Or.inl ⟨by rfl, ?_⟩) (by first | exact hHeld | assumption) ?_ ?_
      rotate_left
      · rintro w' ⟨s0, s1, s2, s3, s4, s5, s6, s7, s8, s9, s10, s11⟩
        go_simp
        with_reducible rfl
      rotate_left
      · simp only [Act.put, List.setIfInBounds_toArray, List.set_cons_zero, List.set_cons_succ]
        rfl
      refine one_ (i := 10) (N := some 58) #[true, true, true, true, true, true, true, true, true, true, true, true, false, false, false, false, false, false, false, false, false, false, false, false, false, false, false, false, false, false] rfl rfl (by kernel_rfl) (by decide) (fun K hK => ?_)
      refine call_ 13 #[.agg #[.int .i64 a', .int .i64 b', .slice As ms'.length cs, .string d']] (by rfl) rfl (by first | (go_simp; done) | (go_simp; rfl)) ?_
      refine (ref_calls a' b' As ms'.length cs d' wh1).mono ?_
      rintro e wh2 ⟨rfl, hbh1⟩
      have ZH_2 := Aside0.mk (blk_below ZH_1.out hbh1)
      have VH_2 := Aside0.mk (blk_below VH_1.out hbh1)
      have YH_2 := Aside0.mk (blk_below YH_1.out hbh1)
      have BH_2 := Aside0.mk (below_step BH_1.out hbh1)
      have DH_2 := Aside0.mk (DH_1.out.trans (hbh1.mono DH_1.out.size))
      have EH_2 := Aside0.mk (EH_1.out.trans (hbh1.mono EH_1.out.size))
      clear hbh1
      refine ⟨_, rfl, hK.out _ _ ⟨(blk_cell ZH_2.out 0).trans rfl, (blk_cell ZH_2.out 1).trans rfl, (blk_cell ZH_2.out 2).trans rfl, (blk_cell ZH_2.out 3).trans rfl, (blk_cell VH_2.out 0).trans rfl, (blk_cell VH_2.out 1).trans rfl, (blk_cell VH_2.out 2).trans rfl, (blk_cell VH_2.out 3).trans rfl, (blk_cell YH_2.out 0).trans rfl, (blk_cell YH_2.out 1).trans rfl, (blk_cell YH_2.out 2).trans rfl, (blk_cell YH_2.out 3).trans rfl⟩ (fun hHeld => ?_)⟩
      clear hK K
      refine norm_ (a' := ?_) ?_ ?_
      rotate_left
      · show Act.put _ (some 58) _ = _
        simp only [Act.put, List.setIfInBounds_toArray, List.set_cons_zero, List.set_cons_succ]
        rfl
      refine one_ (i := 12) (N := some 60) #[true, true, true, true, true, true, true, true, true, true, true, true, true, false, false, false, false, false, false, false, false, false, false, false, false, false, false, false, false, false] rfl rfl (by kernel_rfl) (by decide) (fun K hK => ?_)
      refine call_ 19 #[.agg #[.int .i64 a', .int .i64 b', .slice As ms'.length cs, .string d'], .agg #[.int .i64 a', .int .i64 b', .slice A' ms'.length c', .string d']] (by rfl) rfl (by first | (go_simp; done) | (go_simp; rfl)) ?_
      refine (stowageref07_Same.calls k4 a' b' As cs ms' d' a' b' A' c' ms' d' true wh2 (Kd.C_below HCS.out DH_2.out) LCS.out (Kd.C_below CA'.out EH_2.out) HCC'.out HS.out).mono ?_
      rintro e wh3 ⟨rfl, hbh2⟩
      have ZH_3 := Aside0.mk (blk_below ZH_2.out hbh2)
      have VH_3 := Aside0.mk (blk_below VH_2.out hbh2)
      have YH_3 := Aside0.mk (blk_below YH_2.out hbh2)
      have BH_3 := Aside0.mk (below_step BH_2.out hbh2)
      have DH_3 := Aside0.mk (DH_2.out.trans (hbh2.mono DH_2.out.size))
      have EH_3 := Aside0.mk (EH_2.out.trans (hbh2.mono EH_2.out.size))
      clear hbh2
      refine ⟨_, rfl, hK.out _ _ ⟨(blk_cell ZH_3.out 0).trans rfl, (blk_cell ZH_3.out 1).trans rfl, (blk_cell ZH_3.out 2).trans rfl, (blk_cell ZH_3.out 3).trans rfl, (blk_cell VH_3.out 0).trans rfl, (blk_cell VH_3.out 1).trans rfl, (blk_cell VH_3.out 2).trans rfl, (blk_cell VH_3.out 3).trans rfl, (blk_cell YH_3.out 0).trans rfl, (blk_cell YH_3.out 1).trans rfl, (blk_cell YH_3.out 2).trans rfl, (blk_cell YH_3.out 3).trans rfl⟩ (fun hHeld => ?_)⟩
      clear hK K
      refine norm_ (a' := ?_) ?_ ?_
      rotate_left
      · show Act.put _ (some 60) _ = _
        simp only [Act.put, List.setIfInBounds_toArray, List.set_cons_zero, List.set_cons_succ]
        rfl
      refine pure_ (i := 13) (N := some 61) (v := ?_) (a' := ?_) #[true, true, true, true, true, true, true, true, true, true, true, true, true, true, false, false, false, false, false, false, false, false, false, false, false, false, false, false, false, false] rfl rfl (by kernel_rfl) (fun _ _ _ h => h) (Or.inl ⟨by rfl, ?_⟩) ?_ ?_
      rotate_left
      · intro w'
        go_simp
        with_reducible rfl
      rotate_left
      · simp only [Act.put, List.setIfInBounds_toArray, List.set_cons_zero, List.set_cons_succ]
        rfl
      refine pure_ (i := 14) (N := some 62) (v := ?_) (a' := ?_) #[true, true, true, true, true, true, true, true, true, true, true, true, true, true, true, false, false, false, false, false, false, false, false, false, false, false, false, false, false, false] rfl rfl (by kernel_rfl) (fun _ _ _ h => h) (Or.inl ⟨by rfl, ?_⟩) ?_ ?_
      rotate_left
      · intro w'
        go_simp
        with_reducible rfl
      rotate_left
      · simp only [Act.put, List.setIfInBounds_toArray, List.set_cons_zero, List.set_cons_succ]
        rfl
      refine pure_ (i := 15) (N := some 63) (v := ?_) (a' := ?_) #[true, true, true, true, true, true, true, true, true, true, true, true, true, true, true, true, false, false, false, false, false, false, false, false, false, false, false, false, false, false] rfl rfl (by kernel_rfl) (fun _ _ _ h => h) (Or.inl ⟨by rfl, ?_⟩) ?_ ?_
      rotate_left
      · intro w'
        go_simp
        with_reducible rfl
      rotate_left
      · simp only [Act.put, List.setIfInBounds_toArray, List.set_cons_zero, List.set_cons_succ]
        rfl
      refine pure_ (i := 16) (N := some 64) (v := ?_) (a' := ?_) #[true, true, true, true, true, true, true, true, true, true, true, true, true, true, true, true, true, false, false, false, false, false, false, false, false, false, false, false, false, false] rfl rfl (by kernel_rfl) (fun _ _ _ h => h) (Or.inl ⟨by rfl, ?_⟩) ?_ ?_
      rotate_left
      · intro w'
        go_simp
        with_reducible rfl
      rotate_left
      · simp only [Act.put, List.setIfInBounds_toArray, List.set_cons_zero, List.set_cons_succ]
        rfl
      refine pure_ (i := 17) (N := some 65) (v := ?_) (a' := ?_) #[true, true, true, true, true, true, true, true, true, true, true, true, true, true, true, true, true, true, false, false, false, false, false, false, false, false, false, false, false, false] rfl rfl (by kernel_rfl) (fun _ _ _ h => h) (Or.inl ⟨by rfl, ?_⟩) ?_ ?_
      rotate_left
      · intro w'
        go_simp
        with_reducible rfl
      rotate_left
      · simp only [Act.put, List.setIfInBounds_toArray, List.set_cons_zero, List.set_cons_succ]
        rfl
      refine pure_ (i := 18) (N := some 66) (v := undef) (a' := ?_) #[true, true, true, true, true, true, true, true, true, true, true, true, true, true, true, true, true, true, true, false, false, false, false, false, false, false, false, false, false, false] rfl rfl (by kernel_rfl) (fun _ _ _ h => h) (Or.inr ⟨by rfl, rfl⟩) ?_ ?_
      rotate_left
      · simp only [Act.put, List.setIfInBounds_toArray, List.set_cons_zero, List.set_cons_succ]
        rfl
      refine pure_ (i := 19) (N := some 67) (v := undef) (a' := ?_) #[true, true, true, true, true, true, true, true, true, true, true, true, true, true, true, true, true, true, true, true, false, false, false, false, false, false, false, false, false, false] rfl rfl (by kernel_rfl) (fun _ _ _ h => h) (Or.inr ⟨by rfl, rfl⟩) ?_ ?_
      rotate_left
      · simp only [Act.put, List.setIfInBounds_toArray, List.set_cons_zero, List.set_cons_succ]
        rfl
      refine pure_ (i := 20) (N := some 68) (v := ?_) (a' := ?_) #[true, true, true, true, true, true, true, true, true, true, true, true, true, true, true, true, true, true, true, true, true, false, false, false, false, false, false, false, false, false] rfl rfl (by kernel_rfl) (fun _ _ _ h => h) (Or.inl ⟨by rfl, ?_⟩) ?_ ?_
      rotate_left
      · intro w'
        go_simp
        with_reducible rfl
      rotate_left
      · simp only [Act.put, List.setIfInBounds_toArray, List.set_cons_zero, List.set_cons_succ]
        rfl
      refine pure_ (i := 21) (N := some 69) (v := ?_) (a' := ?_) #[true, true, true, true, true, true, true, true, true, true, true, true, true, true, true, true, true, true, true, true, true, true, false, false, false, false, false, false, false, false] rfl rfl (by kernel_rfl) (fun _ _ _ h => h) (Or.inl ⟨by rfl, ?_⟩) ?_ ?_
      rotate_left
      · intro w'
        go_simp
        with_reducible rfl
      rotate_left
      · simp only [Act.put, List.setIfInBounds_toArray, List.set_cons_zero, List.set_cons_succ]
        rfl
      refine pure_ (i := 22) (N := some 70) (v := undef) (a' := ?_) #[true, true, true, true, true, true, true, true, true, true, true, true, true, true, true, true, true, true, true, true, true, true, true, false, false, false, false, false, false, false] rfl rfl (by kernel_rfl) (fun _ _ _ h => h) (Or.inr ⟨by rfl, rfl⟩) ?_ ?_
      rotate_left
      · simp only [Act.put, List.setIfInBounds_toArray, List.set_cons_zero, List.set_cons_succ]
        rfl
      refine pure_ (i := 23) (N := some 71) (v := undef) (a' := ?_) #[true, true, true, true, true, true, true, true, true, true, true, true, true, true, true, true, true, true, true, true, true, true, true, true, false, false, false, false, false, false] rfl rfl (by kernel_rfl) (fun _ _ _ h => h) (Or.inr ⟨by rfl, rfl⟩) ?_ ?_
      rotate_left
      · simp only [Act.put, List.setIfInBounds_toArray, List.set_cons_zero, List.set_cons_succ]
        rfl
      refine pure_ (i := 24) (N := some 72) (v := undef) (a' := ?_) #[true, true, true, true, true, true, true, true, true, true, true, true, true, true, true, true, true, true, true, true, true, true, true, true, true, false, false, false, false, false] rfl rfl (by kernel_rfl) (fun _ _ _ h => h) (Or.inr ⟨by rfl, rfl⟩) ?_ ?_
      rotate_left
      · simp only [Act.put, List.setIfInBounds_toArray, List.set_cons_zero, List.set_cons_succ]
        rfl
      refine pure_ (i := 25) (N := some 73) (v := undef) (a' := ?_) #[true, true, true, true, true, true, true, true, true, true, true, true, true, true, true, true, true, true, true, true, true, true, true, true, true, true, false, false, false, false] rfl rfl (by kernel_rfl) (fun _ _ _ h => h) (Or.inr ⟨by rfl, rfl⟩) ?_ ?_
      rotate_left
      · simp only [Act.put, List.setIfInBounds_toArray, List.set_cons_zero, List.set_cons_succ]
        rfl
      refine pure_ (i := 26) (N := some 74) (v := undef) (a' := ?_) #[true, true, true, true, true, true, true, true, true, true, true, true, true, true, true, true, true, true, true, true, true, true, true, true, true, true, true, false, false, false] rfl rfl (by kernel_rfl) (fun _ _ _ h => h) (Or.inr ⟨by rfl, rfl⟩) ?_ ?_
      rotate_left
      · simp only [Act.put, List.setIfInBounds_toArray, List.set_cons_zero, List.set_cons_succ]
        rfl
      refine pure_ (i := 27) (N := some 75) (v := ?_) (a' := ?_) #[true, true, true, true, true, true, true, true, true, true, true, true, true, true, true, true, true, true, true, true, true, true, true, true, true, true, true, true, false, false] rfl rfl (by kernel_rfl) (fun _ _ _ h => h) (Or.inl ⟨by rfl, ?_⟩) ?_ ?_
      rotate_left
      · intro w'
        go_simp
        with_reducible rfl
      rotate_left
      · simp only [Act.put, List.setIfInBounds_toArray, List.set_cons_zero, List.set_cons_succ]
        rfl
      refine pure_ (i := 28) (N := some 76) (v := ?_) (a' := ?_) #[true, true, true, true, true, true, true, true, true, true, true, true, true, true, true, true, true, true, true, true, true, true, true, true, true, true, true, true, true, false] rfl rfl (by kernel_rfl) (fun _ _ _ h => h) (Or.inl ⟨by rfl, ?_⟩) ?_ ?_
      rotate_left
      · intro w'
        go_simp
        with_reducible rfl
      rotate_left
      · simp only [Act.put, List.setIfInBounds_toArray, List.set_cons_zero, List.set_cons_succ]
        rfl
      refine pure_ (i := 29) (N := some 6) (v := ?_) (a' := ?_) #[true, true, true, true, true, true, true, true, true, true, true, true, true, true, true, true, true, true, true, true, true, true, true, true, true, true, true, true, true, true] rfl rfl (by kernel_rfl) (fun _ _ _ h => h) (Or.inl ⟨by rfl, ?_⟩) ?_ ?_
      rotate_left
      · intro w'
        go_simp
        with_reducible rfl
      rotate_left
      · simp only [Act.put, List.setIfInBounds_toArray, List.set_cons_zero, List.set_cons_succ]
        rfl
      refine done_ (by kernel_rfl) ?_
      clear hHeld
      go_wp2
      go_ret
      exact ⟨rfl, BH_3.out⟩
    · have I7 : Aside0 (IsD w6 dd (fun k => wA.heap.size ≤ k) (idle (some F) none 2 [] r false)) := ⟨by have := I6.out; rw [hs] at this; exact this⟩
      rw [hs]
      clear h0 hs I6
      go_wp2_with (fail)
      refine (load_calls (x := some F) (y := none) (n := 2) (f := []) (r := r) I7.out (fun k hk => Nat.le_trans B6.out.size hk) (by show F.size ≤ _; have := HFZ.out; omega) (by show F.size + 0 ≤ _; have := HFZ.out; omega) (by decide) (by decide) ((a, b, ms, d), true, 0) (by rw [load_none]; exact HF.out.symm)).mono ?_
      rintro e w7 ⟨v, rfl, hR, hI, hK⟩
      obtain ⟨As, cs, rfl, hlcs, hCs⟩ := Kd.R_reads hR
      have B7 := Aside0.mk (B6.out.trans (hK.below B6.out.size))
      have LCS := Aside0.mk hlcs
      have NZ : Aside0 (wA.heap.size ≤ w7.heap.size) := ⟨B7.out.size⟩
      have bs : Below w7.heap.size w7 (w7.alloc (.cells #[.int .i64 a, .int .i64 b, .slice As ms.length cs, .string d] 24 (0, 0))) := below_alloc (Below.refl _ _) _
      have ZS := Aside0.mk (heap_alloc_new w7 (.cells #[.int .i64 a, .int .i64 b, .slice As ms.length cs, .string d] 24 (0, 0)))
      have BS := Aside0.mk (B7.out.trans (bs.mono B7.out.size))
      have HCS := Aside0.mk hCs
      have DS := Aside0.mk bs
      have XS := Aside0.mk ((BS.out.block _ LX.out).trans XA.out)
      have YS := Aside0.mk ((BS.out.block _ LY.out).trans YA.out)
      clear hR hI hK hlcs hCs bs I7 B6 B7
      have eXS_0 := (blk_cell XS.out 0).trans rfl
      have eXS_1 := (blk_cell XS.out 1).trans rfl
      have eXS_2 := (blk_cell XS.out 2).trans rfl
      have eXS_3 := (blk_cell XS.out 3).trans rfl
      go_wp2_with (fail)
      generalize w7.alloc (.cells #[.int .i64 a, .int .i64 b, .slice As ms.length cs, .string d] 24 (0, 0)) = ws at ZS BS DS XS YS ⊢
      have LZ := Aside0.mk (blk_lt ZS.out)
      refine (ref_calls a b A ms.length c d ws).mono ?_
      rintro e w8 ⟨rfl, hb⟩
      have B8 := Aside0.mk (BS.out.trans (hb.mono BS.out.size))
      have Z8 := Aside0.mk ((hb.block _ LZ.out).trans ZS.out)
      have D8 := Aside0.mk (DS.out.trans (hb.mono DS.out.size))
      have L8 : Aside0 (w7.heap.size < w8.heap.size) := ⟨Nat.lt_of_lt_of_le LZ.out hb.size⟩
      clear hb ZS DS XS YS BS eXS_0 eXS_1 eXS_2 eXS_3
      have bw : Below w8.heap.size w8 (w8.alloc (.cells #[.int .i64 a, .int .i64 b, .slice A ms.length c, .string d] 30 (0, 0))) := below_alloc (Below.refl _ _) _
      have V9 := Aside0.mk (heap_alloc_new w8 (.cells #[.int .i64 a, .int .i64 b, .slice A ms.length c, .string d] 30 (0, 0)))
      have B9 := Aside0.mk (B8.out.trans (bw.mono B8.out.size))
      have Z9 := Aside0.mk ((bw.block _ L8.out).trans Z8.out)
      have D9 := Aside0.mk (D8.out.trans (bw.mono D8.out.size))
      clear bw Z8 D8
      go_upto_region 10 with (fail)
      generalize w8.alloc (.cells #[.int .i64 a, .int .i64 b, .slice A ms.length c, .string d] 30 (0, 0)) = wE at V9 B9 Z9 D9 ⊢
      have VE := V9
      have ZE := Z9
      have BE := B9
      have DE := D9
      clear V9 Z9 B9 D9
      have YE := Aside0.mk ((BE.out.block _ LY.out).trans YA.out)
      have BT := Aside0.mk (BA.out.trans (BE.out.mono BA.out.size))
      obtain ⟨k4, hk4⟩ := (same_ev a b ms d a b ms d HL.out).rounds
      rw [sameS_refl] at hk4
      have HS := Aside0.mk hk4
      clear hk4
      have eZE_0 := (blk_cell ZE.out 0).trans rfl
      have eZE_1 := (blk_cell ZE.out 1).trans rfl
      have eZE_2 := (blk_cell ZE.out 2).trans rfl
      have eZE_3 := (blk_cell ZE.out 3).trans rfl
      have eVE_0 := (blk_cell VE.out 0).trans rfl
      have eVE_1 := (blk_cell VE.out 1).trans rfl
      have eVE_2 := (blk_cell VE.out 2).trans rfl
      have eVE_3 := (blk_cell VE.out 3).trans rfl
      have eYE_0 := (blk_cell YE.out 0).trans rfl
      have eYE_1 := (blk_cell YE.out 1).trans rfl
      have eYE_2 := (blk_cell YE.out 2).trans rfl
      have eYE_3 := (blk_cell YE.out 3).trans rfl
      have ZH_0 := Aside0.mk (blk_drew ZE.out)
      have VH_0 := Aside0.mk (blk_drew VE.out)
      have YH_0 := Aside0.mk (blk_drew YE.out)
      have BH_0 := Aside0.mk (below_drew1 BT.out)
      have DH_0 := Aside0.mk DE.out.drew
      have EH_0 := Aside0.mk BE.out.drew
      clear BT DE BE ZE VE YE XA YA BA
      refine start_ (n := 30) (S := (fun w' => w'.cell? ⟨w7.heap.size, 0, none⟩ = some (.int .i64 a) ∧ w'.cell? ⟨w7.heap.size, 1, none⟩ = some (.int .i64 b) ∧ w'.cell? ⟨w7.heap.size, 2, none⟩ = some (.slice As ms.length cs) ∧ w'.cell? ⟨w7.heap.size, 3, none⟩ = some (.string d) ∧ w'.cell? ⟨w8.heap.size, 0, none⟩ = some (.int .i64 a) ∧ w'.cell? ⟨w8.heap.size, 1, none⟩ = some (.int .i64 b) ∧ w'.cell? ⟨w8.heap.size, 2, none⟩ = some (.slice A ms.length c) ∧ w'.cell? ⟨w8.heap.size, 3, none⟩ = some (.string d) ∧ w'.cell? ⟨w.heap.size + 1, 0, none⟩ = some (.int .i64 a') ∧ w'.cell? ⟨w.heap.size + 1, 1, none⟩ = some (.int .i64 b') ∧ w'.cell? ⟨w.heap.size + 1, 2, none⟩ = some (.slice A' ms'.length c') ∧ w'.cell? ⟨w.heap.size + 1, 3, none⟩ = some (.string d'))) (ds := []) #[false, false, false, false, false, false, false, false, false, false, false, false, false, false, false, false, false, false, false, false, false, false, false, false, false, false, false, false, false, false] (by kernel_rfl) rfl rfl ⟨(blk_cell ZH_0.out 0).trans rfl, (blk_cell ZH_0.out 1).trans rfl, (blk_cell ZH_0.out 2).trans rfl, (blk_cell ZH_0.out 3).trans rfl, (blk_cell VH_0.out 0).trans rfl, (blk_cell VH_0.out 1).trans rfl, (blk_cell VH_0.out 2).trans rfl, (blk_cell VH_0.out 3).trans rfl, (blk_cell YH_0.out 0).trans rfl, (blk_cell YH_0.out 1).trans rfl, (blk_cell YH_0.out 2).trans rfl, (blk_cell YH_0.out 3).trans rfl⟩ (fun hHeld => ?_)
      refine one_ (i := 0) (N := some 48) #[true, false, false, false, false, false, false, false, false, false, false, false, false, false, false, false, false, false, false, false, false, false, false, false, false, false, false, false, false, false] rfl rfl (by kernel_rfl) (by decide) (fun K hK => ?_)
      refine call_ 16 #[] (by rfl) rfl (by first | (go_simp; done) | (go_simp; rfl)) ?_
      refine (awk_calls wE.drew).mono ?_
      rintro e wh1 ⟨rfl, hbh0⟩
      have ZH_1 := Aside0.mk (blk_below ZH_0.out hbh0)
      have VH_1 := Aside0.mk (blk_below VH_0.out hbh0)
      have YH_1 := Aside0.mk (blk_below YH_0.out hbh0)
      have BH_1 := Aside0.mk (below_step BH_0.out hbh0)
      have DH_1 := Aside0.mk (DH_0.out.trans (hbh0.mono DH_0.out.size))
      have EH_1 := Aside0.mk (EH_0.out.trans (hbh0.mono EH_0.out.size))
      clear hbh0
      refine ⟨_, rfl, hK.out _ _ ⟨(blk_cell ZH_1.out 0).trans rfl, (blk_cell ZH_1.out 1).trans rfl, (blk_cell ZH_1.out 2).trans rfl, (blk_cell ZH_1.out 3).trans rfl, (blk_cell VH_1.out 0).trans rfl, (blk_cell VH_1.out 1).trans rfl, (blk_cell VH_1.out 2).trans rfl, (blk_cell VH_1.out 3).trans rfl, (blk_cell YH_1.out 0).trans rfl, (blk_cell YH_1.out 1).trans rfl, (blk_cell YH_1.out 2).trans rfl, (blk_cell YH_1.out 3).trans rfl⟩ (fun hHeld => ?_)⟩
      clear hK K
      refine norm_ (a' := ?_) ?_ ?_
      rotate_left
      · show Act.put _ (some 48) _ = _
        simp only [Act.put, List.setIfInBounds_toArray, List.set_cons_zero, List.set_cons_succ]
        rfl
      refine pure_ (i := 1) (N := some 49) (v := ?_) (a' := ?_) #[true, true, false, false, false, false, false, false, false, false, false, false, false, false, false, false, false, false, false, false, false, false, false, false, false, false, false, false, false, false] rfl rfl (by kernel_rfl) (fun _ _ _ h => h) (Or.inl ⟨by rfl, ?_⟩) ?_ ?_
      rotate_left
      · intro w'
        go_simp
        with_reducible rfl
      rotate_left
      · simp only [Act.put, List.setIfInBounds_toArray, List.set_cons_zero, List.set_cons_succ]
        rfl
      refine pure_ (i := 2) (N := some 50) (v := ?_) (a' := ?_) #[true, true, true, false, false, false, false, false, false, false, false, false, false, false, false, false, false, false, false, false, false, false, false, false, false, false, false, false, false, false] rfl rfl (by kernel_rfl) (fun _ _ _ h => h) (Or.inl ⟨by rfl, ?_⟩) ?_ ?_
      rotate_left
      · intro w'
        go_simp
        with_reducible rfl
      rotate_left
      · simp only [Act.put, List.setIfInBounds_toArray, List.set_cons_zero, List.set_cons_succ]
        rfl
      refine pure_ (i := 3) (N := some 51) (v := ?_) (a' := ?_) #[true, true, true, true, false, false, false, false, false, false, false, false, false, false, false, false, false, false, false, false, false, false, false, false, false, false, false, false, false, false] rfl rfl (by kernel_rfl) (fun _ _ _ h => h) (Or.inl ⟨by rfl, ?_⟩) ?_ ?_
      rotate_left
      · intro w'
        go_simp
        with_reducible rfl
      rotate_left
      · simp only [Act.put, List.setIfInBounds_toArray, List.set_cons_zero, List.set_cons_succ]
        rfl
      refine pure_ (i := 4) (N := some 52) (v := ?_) (a' := ?_) #[true, true, true, true, true, false, false, false, false, false, false, false, false, false, false, false, false, false, false, false, false, false, false, false, false, false, false, false, false, false] rfl rfl (by kernel_rfl) (fun _ _ _ h => h) (Or.inl ⟨by rfl, ?_⟩) ?_ ?_
      rotate_left
      · intro w'
        go_simp
        with_reducible rfl
      rotate_left
      · simp only [Act.put, List.setIfInBounds_toArray, List.set_cons_zero, List.set_cons_succ]
        rfl
      refine pure_ (i := 5) (N := some 53) (v := ?_) (a' := ?_) #[true, true, true, true, true, true, false, false, false, false, false, false, false, false, false, false, false, false, false, false, false, false, false, false, false, false, false, false, false, false] rfl rfl (by kernel_rfl) (fun _ _ _ h => h) (Or.inl ⟨by rfl, ?_⟩) ?_ ?_
      rotate_left
      · intro w'
        go_simp
        with_reducible rfl
      rotate_left
      · simp only [Act.put, List.setIfInBounds_toArray, List.set_cons_zero, List.set_cons_succ]
        rfl
      refine pure_ (i := 6) (N := some 54) (v := ?_) (a' := ?_) #[true, true, true, true, true, true, true, false, false, false, false, false, false, false, false, false, false, false, false, false, false, false, false, false, false, false, false, false, false, false] rfl rfl (by kernel_rfl) (fun _ _ _ h => h) (Or.inl ⟨by rfl, ?_⟩) ?_ ?_
      rotate_left
      · intro w'
        go_simp
        with_reducible rfl
      rotate_left
      · simp only [Act.put, List.setIfInBounds_toArray, List.set_cons_zero, List.set_cons_succ]
        rfl
      refine pure_ (i := 7) (N := some 55) (v := ?_) (a' := ?_) #[true, true, true, true, true, true, true, true, false, false, false, false, false, false, false, false, false, false, false, false, false, false, false, false, false, false, false, false, false, false] rfl rfl (by kernel_rfl) (fun _ _ _ h => h) (Or.inl ⟨by rfl, ?_⟩) ?_ ?_
      rotate_left
      · intro w'
        go_simp
        with_reducible rfl
      rotate_left
      · simp only [Act.put, List.setIfInBounds_toArray, List.set_cons_zero, List.set_cons_succ]
        rfl
      refine pure_ (i := 8) (N := some 56) (v := ?_) (a' := ?_) #[true, true, true, true, true, true, true, true, true, false, false, false, false, false, false, false, false, false, false, false, false, false, false, false, false, false, false, false, false, false] rfl rfl (by kernel_rfl) (fun _ _ _ h => h) (Or.inl ⟨by rfl, ?_⟩) ?_ ?_
      rotate_left
      · intro w'
        go_simp
        with_reducible rfl
      rotate_left
      · simp only [Act.put, List.setIfInBounds_toArray, List.set_cons_zero, List.set_cons_succ]
        rfl
      refine take_ (i := 9) (N := some 57) (v := ?_) (a' := ?_) #[true, true, true, true, true, true, true, true, true, true, false, false, false, false, false, false, false, false, false, false, false, false, false, false, false, false, false, false, false, false] rfl rfl (by kernel_rfl) (fun _ _ _ h => h) (Or.inl ⟨by rfl, ?_⟩) (by first | exact hHeld | assumption) ?_ ?_
      rotate_left
      · rintro w' ⟨s0, s1, s2, s3, s4, s5, s6, s7, s8, s9, s10, s11⟩
        go_simp
        with_reducible rfl
      rotate_left
      · simp only [Act.put, List.setIfInBounds_toArray, List.set_cons_zero, List.set_cons_succ]
        rfl
      refine take_ (i := 11) (N := some 59) (v := ?_) (a' := ?_) #[true, true, true, true, true, true, true, true, true, true, false, true, false, false, false, false, false, false, false, false, false, false, false, false, false, false, false, false, false, false] rfl rfl (by kernel_rfl) (fun _ _ _ h => h) (Or.inl ⟨by rfl, ?_⟩) (by first | exact hHeld | assumption) ?_ ?_
      rotate_left
      · rintro w' ⟨s0, s1, s2, s3, s4, s5, s6, s7, s8, s9, s10, s11⟩
        go_simp
        with_reducible rfl
      rotate_left
      · simp only [Act.put, List.setIfInBounds_toArray, List.set_cons_zero, List.set_cons_succ]
        rfl
      refine one_ (i := 10) (N := some 58) #[true, true, true, true, true, true, true, true, true, true, true, true, false, false, false, false, false, false, false, false, false, false, false, false, false, false, false, false, false, false] rfl rfl (by kernel_rfl) (by decide) (fun K hK => ?_)
      refine call_ 13 #[.agg #[.int .i64 a, .int .i64 b, .slice As ms.length cs, .string d]] (by rfl) rfl (by first | (go_simp; done) | (go_simp; rfl)) ?_
      refine (ref_calls a b As ms.length cs d wh1).mono ?_
      rintro e wh2 ⟨rfl, hbh1⟩
      have ZH_2 := Aside0.mk (blk_below ZH_1.out hbh1)
      have VH_2 := Aside0.mk (blk_below VH_1.out hbh1)
      have YH_2 := Aside0.mk (blk_below YH_1.out hbh1)
      have BH_2 := Aside0.mk (below_step BH_1.out hbh1)
      have DH_2 := Aside0.mk (DH_1.out.trans (hbh1.mono DH_1.out.size))
      have EH_2 := Aside0.mk (EH_1.out.trans (hbh1.mono EH_1.out.size))
      clear hbh1
      refine ⟨_, rfl, hK.out _ _ ⟨(blk_cell ZH_2.out 0).trans rfl, (blk_cell ZH_2.out 1).trans rfl, (blk_cell ZH_2.out 2).trans rfl, (blk_cell ZH_2.out 3).trans rfl, (blk_cell VH_2.out 0).trans rfl, (blk_cell VH_2.out 1).trans rfl, (blk_cell VH_2.out 2).trans rfl, (blk_cell VH_2.out 3).trans rfl, (blk_cell YH_2.out 0).trans rfl, (blk_cell YH_2.out 1).trans rfl, (blk_cell YH_2.out 2).trans rfl, (blk_cell YH_2.out 3).trans rfl⟩ (fun hHeld => ?_)⟩
      clear hK K
      refine norm_ (a' := ?_) ?_ ?_
      rotate_left
      · show Act.put _ (some 58) _ = _
        simp only [Act.put, List.setIfInBounds_toArray, List.set_cons_zero, List.set_cons_succ]
        rfl
      refine one_ (i := 12) (N := some 60) #[true, true, true, true, true, true, true, true, true, true, true, true, true, false, false, false, false, false, false, false, false, false, false, false, false, false, false, false, false, false] rfl rfl (by kernel_rfl) (by decide) (fun K hK => ?_)
      refine call_ 19 #[.agg #[.int .i64 a, .int .i64 b, .slice As ms.length cs, .string d], .agg #[.int .i64 a, .int .i64 b, .slice A ms.length c, .string d]] (by rfl) rfl (by first | (go_simp; done) | (go_simp; rfl)) ?_
      refine (stowageref07_Same.calls k4 a b As cs ms d a b A c ms d true wh2 (Kd.C_below HCS.out DH_2.out) LCS.out (Kd.C_below CA.out EH_2.out) HCC.out HS.out).mono ?_
      rintro e wh3 ⟨rfl, hbh2⟩
      have ZH_3 := Aside0.mk (blk_below ZH_2.out hbh2)
      have VH_3 := Aside0.mk (blk_below VH_2.out hbh2)
      have YH_3 := Aside0.mk (blk_below YH_2.out hbh2)
      have BH_3 := Aside0.mk (below_step BH_2.out hbh2)
      have DH_3 := Aside0.mk (DH_2.out.trans (hbh2.mono DH_2.out.size))
      have EH_3 := Aside0.mk (EH_2.out.trans (hbh2.mono EH_2.out.size))
      clear hbh2
      refine ⟨_, rfl, hK.out _ _ ⟨(blk_cell ZH_3.out 0).trans rfl, (blk_cell ZH_3.out 1).trans rfl, (blk_cell ZH_3.out 2).trans rfl, (blk_cell ZH_3.out 3).trans rfl, (blk_cell VH_3.out 0).trans rfl, (blk_cell VH_3.out 1).trans rfl, (blk_cell VH_3.out 2).trans rfl, (blk_cell VH_3.out 3).trans rfl, (blk_cell YH_3.out 0).trans rfl, (blk_cell YH_3.out 1).trans rfl, (blk_cell YH_3.out 2).trans rfl, (blk_cell YH_3.out 3).trans rfl⟩ (fun hHeld => ?_)⟩
      clear hK K
      refine norm_ (a' := ?_) ?_ ?_
      rotate_left
      · show Act.put _ (some 60) _ = _
        simp only [Act.put, List.setIfInBounds_toArray, List.set_cons_zero, List.set_cons_succ]
        rfl
      refine pure_ (i := 13) (N := some 61) (v := ?_) (a' := ?_) #[true, true, true, true, true, true, true, true, true, true, true, true, true, true, false, false, false, false, false, false, false, false, false, false, false, false, false, false, false, false] rfl rfl (by kernel_rfl) (fun _ _ _ h => h) (Or.inl ⟨by rfl, ?_⟩) ?_ ?_
      rotate_left
      · intro w'
        go_simp
        with_reducible rfl
      rotate_left
      · simp only [Act.put, List.setIfInBounds_toArray, List.set_cons_zero, List.set_cons_succ]
        rfl
      refine pure_ (i := 14) (N := some 62) (v := ?_) (a' := ?_) #[true, true, true, true, true, true, true, true, true, true, true, true, true, true, true, false, false, false, false, false, false, false, false, false, false, false, false, false, false, false] rfl rfl (by kernel_rfl) (fun _ _ _ h => h) (Or.inl ⟨by rfl, ?_⟩) ?_ ?_
      rotate_left
      · intro w'
        go_simp
        with_reducible rfl
      rotate_left
      · simp only [Act.put, List.setIfInBounds_toArray, List.set_cons_zero, List.set_cons_succ]
        rfl
      refine pure_ (i := 15) (N := some 63) (v := ?_) (a' := ?_) #[true, true, true, true, true, true, true, true, true, true, true, true, true, true, true, true, false, false, false, false, false, false, false, false, false, false, false, false, false, false] rfl rfl (by kernel_rfl) (fun _ _ _ h => h) (Or.inl ⟨by rfl, ?_⟩) ?_ ?_
      rotate_left
      · intro w'
        go_simp
        with_reducible rfl
      rotate_left
      · simp only [Act.put, List.setIfInBounds_toArray, List.set_cons_zero, List.set_cons_succ]
        rfl
      refine pure_ (i := 16) (N := some 64) (v := ?_) (a' := ?_) #[true, true, true, true, true, true, true, true, true, true, true, true, true, true, true, true, true, false, false, false, false, false, false, false, false, false, false, false, false, false] rfl rfl (by kernel_rfl) (fun _ _ _ h => h) (Or.inl ⟨by rfl, ?_⟩) ?_ ?_
      rotate_left
      · intro w'
        go_simp
        with_reducible rfl
      rotate_left
      · simp only [Act.put, List.setIfInBounds_toArray, List.set_cons_zero, List.set_cons_succ]
        rfl
      refine pure_ (i := 17) (N := some 65) (v := ?_) (a' := ?_) #[true, true, true, true, true, true, true, true, true, true, true, true, true, true, true, true, true, true, false, false, false, false, false, false, false, false, false, false, false, false] rfl rfl (by kernel_rfl) (fun _ _ _ h => h) (Or.inl ⟨by rfl, ?_⟩) ?_ ?_
      rotate_left
      · intro w'
        go_simp
        with_reducible rfl
      rotate_left
      · simp only [Act.put, List.setIfInBounds_toArray, List.set_cons_zero, List.set_cons_succ]
        rfl
      refine pure_ (i := 18) (N := some 66) (v := ?_) (a' := ?_) #[true, true, true, true, true, true, true, true, true, true, true, true, true, true, true, true, true, true, true, false, false, false, false, false, false, false, false, false, false, false] rfl rfl (by kernel_rfl) (fun _ _ _ h => h) (Or.inl ⟨by rfl, ?_⟩) ?_ ?_
      rotate_left
      · intro w'
        go_simp
        with_reducible rfl
      rotate_left
      · simp only [Act.put, List.setIfInBounds_toArray, List.set_cons_zero, List.set_cons_succ]
        rfl
      refine pure_ (i := 19) (N := some 67) (v := ?_) (a' := ?_) #[true, true, true, true, true, true, true, true, true, true, true, true, true, true, true, true, true, true, true, true, false, false, false, false, false, false, false, false, false, false] rfl rfl (by kernel_rfl) (fun _ _ _ h => h) (Or.inl ⟨by rfl, ?_⟩) ?_ ?_
      rotate_left
      · intro w'
        go_simp
        with_reducible rfl
      rotate_left
      · simp only [Act.put, List.setIfInBounds_toArray, List.set_cons_zero, List.set_cons_succ]
        rfl
      refine pure_ (i := 20) (N := some 68) (v := ?_) (a' := ?_) #[true, true, true, true, true, true, true, true, true, true, true, true, true, true, true, true, true, true, true, true, true, false, false, false, false, false, false, false, false, false] rfl rfl (by kernel_rfl) (fun _ _ _ h => h) (Or.inl ⟨by rfl, ?_⟩) ?_ ?_
      rotate_left
      · intro w'
        go_simp
        with_reducible rfl
      rotate_left
      · simp only [Act.put, List.setIfInBounds_toArray, List.set_cons_zero, List.set_cons_succ]
        rfl
      refine pure_ (i := 21) (N := some 69) (v := ?_) (a' := ?_) #[true, true, true, true, true, true, true, true, true, true, true, true, true, true, true, true, true, true, true, true, true, true, false, false, false, false, false, false, false, false] rfl rfl (by kernel_rfl) (fun _ _ _ h => h) (Or.inl ⟨by rfl, ?_⟩) ?_ ?_
      rotate_left
      · intro w'
        go_simp
        with_reducible rfl
      rotate_left
      · simp only [Act.put, List.setIfInBounds_toArray, List.set_cons_zero, List.set_cons_succ]
        rfl
      refine pure_ (i := 22) (N := some 70) (v := undef) (a' := ?_) #[true, true, true, true, true, true, true, true, true, true, true, true, true, true, true, true, true, true, true, true, true, true, true, false, false, false, false, false, false, false] rfl rfl (by kernel_rfl) (fun _ _ _ h => h) (Or.inr ⟨by rfl, rfl⟩) ?_ ?_
      rotate_left
      · simp only [Act.put, List.setIfInBounds_toArray, List.set_cons_zero, List.set_cons_succ]
        rfl
      refine pure_ (i := 23) (N := some 71) (v := undef) (a' := ?_) #[true, true, true, true, true, true, true, true, true, true, true, true, true, true, true, true, true, true, true, true, true, true, true, true, false, false, false, false, false, false] rfl rfl (by kernel_rfl) (fun _ _ _ h => h) (Or.inr ⟨by rfl, rfl⟩) ?_ ?_
      rotate_left
      · simp only [Act.put, List.setIfInBounds_toArray, List.set_cons_zero, List.set_cons_succ]
        rfl
      refine pure_ (i := 24) (N := some 72) (v := undef) (a' := ?_) #[true, true, true, true, true, true, true, true, true, true, true, true, true, true, true, true, true, true, true, true, true, true, true, true, true, false, false, false, false, false] rfl rfl (by kernel_rfl) (fun _ _ _ h => h) (Or.inr ⟨by rfl, rfl⟩) ?_ ?_
      rotate_left
      · simp only [Act.put, List.setIfInBounds_toArray, List.set_cons_zero, List.set_cons_succ]
        rfl
      refine pure_ (i := 25) (N := some 73) (v := undef) (a' := ?_) #[true, true, true, true, true, true, true, true, true, true, true, true, true, true, true, true, true, true, true, true, true, true, true, true, true, true, false, false, false, false] rfl rfl (by kernel_rfl) (fun _ _ _ h => h) (Or.inr ⟨by rfl, rfl⟩) ?_ ?_
      rotate_left
      · simp only [Act.put, List.setIfInBounds_toArray, List.set_cons_zero, List.set_cons_succ]
        rfl
      refine pure_ (i := 26) (N := some 74) (v := undef) (a' := ?_) #[true, true, true, true, true, true, true, true, true, true, true, true, true, true, true, true, true, true, true, true, true, true, true, true, true, true, true, false, false, false] rfl rfl (by kernel_rfl) (fun _ _ _ h => h) (Or.inr ⟨by rfl, rfl⟩) ?_ ?_
      rotate_left
      · simp only [Act.put, List.setIfInBounds_toArray, List.set_cons_zero, List.set_cons_succ]
        rfl
      refine pure_ (i := 27) (N := some 75) (v := ?_) (a' := ?_) #[true, true, true, true, true, true, true, true, true, true, true, true, true, true, true, true, true, true, true, true, true, true, true, true, true, true, true, true, false, false] rfl rfl (by kernel_rfl) (fun _ _ _ h => h) (Or.inl ⟨by rfl, ?_⟩) ?_ ?_
      rotate_left
      · intro w'
        go_simp
        with_reducible rfl
      rotate_left
      · simp only [Act.put, List.setIfInBounds_toArray, List.set_cons_zero, List.set_cons_succ]
        rfl
      refine pure_ (i := 28) (N := some 76) (v := ?_) (a' := ?_) #[true, true, true, true, true, true, true, true, true, true, true, true, true, true, true, true, true, true, true, true, true, true, true, true, true, true, true, true, true, false] rfl rfl (by kernel_rfl) (fun _ _ _ h => h) (Or.inl ⟨by rfl, ?_⟩) ?_ ?_
      rotate_left
      · intro w'
        go_simp
        with_reducible rfl
      rotate_left
      · simp only [Act.put, List.setIfInBounds_toArray, List.set_cons_zero, List.set_cons_succ]
        rfl
      refine pure_ (i := 29) (N := some 6) (v := ?_) (a' := ?_) #[true, true, true, true, true, true, true, true, true, true, true, true, true, true, true, true, true, true, true, true, true, true, true, true, true, true, true, true, true, true] rfl rfl (by kernel_rfl) (fun _ _ _ h => h) (Or.inl ⟨by rfl, ?_⟩) ?_ ?_
      rotate_left
      · intro w'
        go_simp
        with_reducible rfl
      rotate_left
      · simp only [Act.put, List.setIfInBounds_toArray, List.set_cons_zero, List.set_cons_succ]
        rfl
      refine done_ (by kernel_rfl) ?_
      clear hHeld
      go_wp2
      go_ret
      exact ⟨rfl, BH_3.out⟩
    · have I7 : Aside0 (IsD w6 dd (fun k => wA.heap.size ≤ k) (idle (some F) none 2 [] r false)) := ⟨by have := I6.out; rw [hs] at this; exact this⟩
      rw [hs]
      obtain ⟨kc, hkc⟩ := (rchk_ev a' b' ms' d').rounds
      have hce := chk_err a' b' ms' d'
      generalize chkS a' b' ms' d' = ck at h0 hkc hce ⊢
      have z0 : (ck == 0) = false := beq_eq_false_iff_ne.mpr h0
      have z1 : (ck == 22) = false := beq_eq_false_iff_ne.mpr (by omega)
      have z2 : (ck == ck) = true := by simp
      have HKC := Aside0.mk hkc
      clear h0 hs I6 hkc hce
      go_wp2_with (fail)
      refine (load_calls (x := some F) (y := none) (n := 2) (f := []) (r := r) I7.out (fun k hk => Nat.le_trans B6.out.size hk) (by show F.size ≤ _; have := HFZ.out; omega) (by show F.size + 0 ≤ _; have := HFZ.out; omega) (by decide) (by decide) ((a, b, ms, d), true, 0) (by rw [load_none]; exact HF.out.symm)).mono ?_
      rintro e w7 ⟨v, rfl, hR, hI, hK⟩
      obtain ⟨As, cs, rfl, hlcs, hCs⟩ := Kd.R_reads hR
      have B7 := Aside0.mk (B6.out.trans (hK.below B6.out.size))
      have LCS := Aside0.mk hlcs
      have NZ : Aside0 (wA.heap.size ≤ w7.heap.size) := ⟨B7.out.size⟩
      have bs : Below w7.heap.size w7 (w7.alloc (.cells #[.int .i64 a, .int .i64 b, .slice As ms.length cs, .string d] 24 (0, 0))) := below_alloc (Below.refl _ _) _
      have ZS := Aside0.mk (heap_alloc_new w7 (.cells #[.int .i64 a, .int .i64 b, .slice As ms.length cs, .string d] 24 (0, 0)))
      have BS := Aside0.mk (B7.out.trans (bs.mono B7.out.size))
      have HCS := Aside0.mk hCs
      have DS := Aside0.mk bs
      have XS := Aside0.mk ((BS.out.block _ LX.out).trans XA.out)
      have YS := Aside0.mk ((BS.out.block _ LY.out).trans YA.out)
      clear hR hI hK hlcs hCs bs I7 B6 B7
      have eXS_0 := (blk_cell XS.out 0).trans rfl
      have eXS_1 := (blk_cell XS.out 1).trans rfl
      have eXS_2 := (blk_cell XS.out 2).trans rfl
      have eXS_3 := (blk_cell XS.out 3).trans rfl
      go_wp2_with (fail)
      generalize w7.alloc (.cells #[.int .i64 a, .int .i64 b, .slice As ms.length cs, .string d] 24 (0, 0)) = ws at ZS BS DS XS YS ⊢
      have LZ := Aside0.mk (blk_lt ZS.out)
      refine (ref_calls a b A ms.length c d ws).mono ?_
      rintro e w8 ⟨rfl, hb⟩
      have B8 := Aside0.mk (BS.out.trans (hb.mono BS.out.size))
      have Z8 := Aside0.mk ((hb.block _ LZ.out).trans ZS.out)
      have D8 := Aside0.mk (DS.out.trans (hb.mono DS.out.size))
      have L8 : Aside0 (w7.heap.size < w8.heap.size) := ⟨Nat.lt_of_lt_of_le LZ.out hb.size⟩
      clear hb ZS DS XS YS BS eXS_0 eXS_1 eXS_2 eXS_3
      have bw : Below w8.heap.size w8 (w8.alloc (.cells #[.int .i64 a, .int .i64 b, .slice A ms.length c, .string d] 30 (0, 0))) := below_alloc (Below.refl _ _) _
      have V9 := Aside0.mk (heap_alloc_new w8 (.cells #[.int .i64 a, .int .i64 b, .slice A ms.length c, .string d] 30 (0, 0)))
      have B9 := Aside0.mk (B8.out.trans (bw.mono B8.out.size))
      have Z9 := Aside0.mk ((bw.block _ L8.out).trans Z8.out)
      have D9 := Aside0.mk (D8.out.trans (bw.mono D8.out.size))
      clear bw Z8 D8
      go_upto_region 10 with (fail)
      generalize w8.alloc (.cells #[.int .i64 a, .int .i64 b, .slice A ms.length c, .string d] 30 (0, 0)) = wE at V9 B9 Z9 D9 ⊢
      have VE := V9
      have ZE := Z9
      have BE := B9
      have DE := D9
      clear V9 Z9 B9 D9
      have YE := Aside0.mk ((BE.out.block _ LY.out).trans YA.out)
      have BT := Aside0.mk (BA.out.trans (BE.out.mono BA.out.size))
      obtain ⟨k4, hk4⟩ := (same_ev a b ms d a b ms d HL.out).rounds
      rw [sameS_refl] at hk4
      have HS := Aside0.mk hk4
      clear hk4
      have eZE_0 := (blk_cell ZE.out 0).trans rfl
      have eZE_1 := (blk_cell ZE.out 1).trans rfl
      have eZE_2 := (blk_cell ZE.out 2).trans rfl
      have eZE_3 := (blk_cell ZE.out 3).trans rfl
      have eVE_0 := (blk_cell VE.out 0).trans rfl
      have eVE_1 := (blk_cell VE.out 1).trans rfl
      have eVE_2 := (blk_cell VE.out 2).trans rfl
      have eVE_3 := (blk_cell VE.out 3).trans rfl
      have eYE_0 := (blk_cell YE.out 0).trans rfl
      have eYE_1 := (blk_cell YE.out 1).trans rfl
      have eYE_2 := (blk_cell YE.out 2).trans rfl
      have eYE_3 := (blk_cell YE.out 3).trans rfl
      have ZH_0 := Aside0.mk (blk_drew ZE.out)
      have VH_0 := Aside0.mk (blk_drew VE.out)
      have YH_0 := Aside0.mk (blk_drew YE.out)
      have BH_0 := Aside0.mk (below_drew1 BT.out)
      have DH_0 := Aside0.mk DE.out.drew
      have EH_0 := Aside0.mk BE.out.drew
      clear BT DE BE ZE VE YE XA YA BA
      go_region_held3 (fun w' => w'.cell? ⟨w7.heap.size, 0, none⟩ = some (.int .i64 a) ∧ w'.cell? ⟨w7.heap.size, 1, none⟩ = some (.int .i64 b) ∧ w'.cell? ⟨w7.heap.size, 2, none⟩ = some (.slice As ms.length cs) ∧ w'.cell? ⟨w7.heap.size, 3, none⟩ = some (.string d) ∧ w'.cell? ⟨w8.heap.size, 0, none⟩ = some (.int .i64 a) ∧ w'.cell? ⟨w8.heap.size, 1, none⟩ = some (.int .i64 b) ∧ w'.cell? ⟨w8.heap.size, 2, none⟩ = some (.slice A ms.length c) ∧ w'.cell? ⟨w8.heap.size, 3, none⟩ = some (.string d) ∧ w'.cell? ⟨w.heap.size + 1, 0, none⟩ = some (.int .i64 a') ∧ w'.cell? ⟨w.heap.size + 1, 1, none⟩ = some (.int .i64 b') ∧ w'.cell? ⟨w.heap.size + 1, 2, none⟩ = some (.slice A' ms'.length c') ∧ w'.cell? ⟨w.heap.size + 1, 3, none⟩ = some (.string d')) (go_keep)
        ((first
          | (go_at_call 16; refine (awk_calls wE.drew).mono ?_; rintro e wh1 ⟨rfl, hbh0⟩; have ZH_1 := Aside0.mk (blk_below ZH_0.out hbh0); have VH_1 := Aside0.mk (blk_below VH_0.out hbh0); have YH_1 := Aside0.mk (blk_below YH_0.out hbh0); have BH_1 := Aside0.mk (below_step BH_0.out hbh0); have DH_1 := Aside0.mk (DH_0.out.trans (hbh0.mono DH_0.out.size)); have EH_1 := Aside0.mk (EH_0.out.trans (hbh0.mono EH_0.out.size)); clear hbh0; have qh1_0_0 := (blk_cell ZH_1.out 0).trans rfl; have qh1_0_1 := (blk_cell ZH_1.out 1).trans rfl; have qh1_0_2 := (blk_cell ZH_1.out 2).trans rfl; have qh1_0_3 := (blk_cell ZH_1.out 3).trans rfl; have qh1_1_0 := (blk_cell VH_1.out 0).trans rfl; have qh1_1_1 := (blk_cell VH_1.out 1).trans rfl; have qh1_1_2 := (blk_cell VH_1.out 2).trans rfl; have qh1_1_3 := (blk_cell VH_1.out 3).trans rfl; have qh1_2_0 := (blk_cell YH_1.out 0).trans rfl; have qh1_2_1 := (blk_cell YH_1.out 1).trans rfl; have qh1_2_2 := (blk_cell YH_1.out 2).trans rfl; have qh1_2_3 := (blk_cell YH_1.out 3).trans rfl)
          | (go_at_call 13; refine (ref_calls a b As ms.length cs d wh1).mono ?_; rintro e wh2 ⟨rfl, hbh1⟩; have ZH_2 := Aside0.mk (blk_below ZH_1.out hbh1); have VH_2 := Aside0.mk (blk_below VH_1.out hbh1); have YH_2 := Aside0.mk (blk_below YH_1.out hbh1); have BH_2 := Aside0.mk (below_step BH_1.out hbh1); have DH_2 := Aside0.mk (DH_1.out.trans (hbh1.mono DH_1.out.size)); have EH_2 := Aside0.mk (EH_1.out.trans (hbh1.mono EH_1.out.size)); clear hbh1; have qh2_0_0 := (blk_cell ZH_2.out 0).trans rfl; have qh2_0_1 := (blk_cell ZH_2.out 1).trans rfl; have qh2_0_2 := (blk_cell ZH_2.out 2).trans rfl; have qh2_0_3 := (blk_cell ZH_2.out 3).trans rfl; have qh2_1_0 := (blk_cell VH_2.out 0).trans rfl; have qh2_1_1 := (blk_cell VH_2.out 1).trans rfl; have qh2_1_2 := (blk_cell VH_2.out 2).trans rfl; have qh2_1_3 := (blk_cell VH_2.out 3).trans rfl; have qh2_2_0 := (blk_cell YH_2.out 0).trans rfl; have qh2_2_1 := (blk_cell YH_2.out 1).trans rfl; have qh2_2_2 := (blk_cell YH_2.out 2).trans rfl; have qh2_2_3 := (blk_cell YH_2.out 3).trans rfl)
          | (go_at_call 19; refine (stowageref07_Same.calls k4 a b As cs ms d a b A c ms d true wh2 (Kd.C_below HCS.out DH_2.out) LCS.out (Kd.C_below CA.out EH_2.out) HCC.out HS.out).mono ?_; rintro e wh3 ⟨rfl, hbh2⟩; have ZH_3 := Aside0.mk (blk_below ZH_2.out hbh2); have VH_3 := Aside0.mk (blk_below VH_2.out hbh2); have YH_3 := Aside0.mk (blk_below YH_2.out hbh2); have BH_3 := Aside0.mk (below_step BH_2.out hbh2); have DH_3 := Aside0.mk (DH_2.out.trans (hbh2.mono DH_2.out.size)); have EH_3 := Aside0.mk (EH_2.out.trans (hbh2.mono EH_2.out.size)); clear hbh2; have qh3_0_0 := (blk_cell ZH_3.out 0).trans rfl; have qh3_0_1 := (blk_cell ZH_3.out 1).trans rfl; have qh3_0_2 := (blk_cell ZH_3.out 2).trans rfl; have qh3_0_3 := (blk_cell ZH_3.out 3).trans rfl; have qh3_1_0 := (blk_cell VH_3.out 0).trans rfl; have qh3_1_1 := (blk_cell VH_3.out 1).trans rfl; have qh3_1_2 := (blk_cell VH_3.out 2).trans rfl; have qh3_1_3 := (blk_cell VH_3.out 3).trans rfl; have qh3_2_0 := (blk_cell YH_3.out 0).trans rfl; have qh3_2_1 := (blk_cell YH_3.out 1).trans rfl; have qh3_2_2 := (blk_cell YH_3.out 2).trans rfl; have qh3_2_3 := (blk_cell YH_3.out 3).trans rfl)
          | (go_at_call 13; refine (ref_calls a' b' A' ms'.length c' d' wh3).mono ?_; rintro e wh4 ⟨rfl, hbh3⟩; have ZH_4 := Aside0.mk (blk_below ZH_3.out hbh3); have VH_4 := Aside0.mk (blk_below VH_3.out hbh3); have YH_4 := Aside0.mk (blk_below YH_3.out hbh3); have BH_4 := Aside0.mk (below_step BH_3.out hbh3); have DH_4 := Aside0.mk (DH_3.out.trans (hbh3.mono DH_3.out.size)); have EH_4 := Aside0.mk (EH_3.out.trans (hbh3.mono EH_3.out.size)); clear hbh3; have qh4_0_0 := (blk_cell ZH_4.out 0).trans rfl; have qh4_0_1 := (blk_cell ZH_4.out 1).trans rfl; have qh4_0_2 := (blk_cell ZH_4.out 2).trans rfl; have qh4_0_3 := (blk_cell ZH_4.out 3).trans rfl; have qh4_1_0 := (blk_cell VH_4.out 0).trans rfl; have qh4_1_1 := (blk_cell VH_4.out 1).trans rfl; have qh4_1_2 := (blk_cell VH_4.out 2).trans rfl; have qh4_1_3 := (blk_cell VH_4.out 3).trans rfl; have qh4_2_0 := (blk_cell YH_4.out 0).trans rfl; have qh4_2_1 := (blk_cell YH_4.out 1).trans rfl; have qh4_2_2 := (blk_cell YH_4.out 2).trans rfl; have qh4_2_3 := (blk_cell YH_4.out 3).trans rfl)
          | (go_at_call 18; refine (stowageref07_Check.calls kc a' b' A' c' ms' d' ck wh4 (Kd.C_below CA'.out EH_4.out) HCC'.out HKC.out).mono ?_; rintro e wh5 ⟨rfl, hbh4⟩; have ZH_5 := Aside0.mk (blk_below ZH_4.out hbh4); have VH_5 := Aside0.mk (blk_below VH_4.out hbh4); have YH_5 := Aside0.mk (blk_below YH_4.out hbh4); have BH_5 := Aside0.mk (below_step BH_4.out hbh4); have DH_5 := Aside0.mk (DH_4.out.trans (hbh4.mono DH_4.out.size)); have EH_5 := Aside0.mk (EH_4.out.trans (hbh4.mono EH_4.out.size)); clear hbh4; have qh5_0_0 := (blk_cell ZH_5.out 0).trans rfl; have qh5_0_1 := (blk_cell ZH_5.out 1).trans rfl; have qh5_0_2 := (blk_cell ZH_5.out 2).trans rfl; have qh5_0_3 := (blk_cell ZH_5.out 3).trans rfl; have qh5_1_0 := (blk_cell VH_5.out 0).trans rfl; have qh5_1_1 := (blk_cell VH_5.out 1).trans rfl; have qh5_1_2 := (blk_cell VH_5.out 2).trans rfl; have qh5_1_3 := (blk_cell VH_5.out 3).trans rfl; have qh5_2_0 := (blk_cell YH_5.out 0).trans rfl; have qh5_2_1 := (blk_cell YH_5.out 1).trans rfl; have qh5_2_2 := (blk_cell YH_5.out 2).trans rfl; have qh5_2_3 := (blk_cell YH_5.out 3).trans rfl)))
      go_wp2
      go_ret
      exact ⟨rfl, BH_5.out⟩
  · exact absurd h0 (by decide)
  · have hce := chk_err a b ms d
    rw [hs]
    obtain ⟨kc, hkc⟩ := (chk_ev a b ms d).rounds
    generalize chkS a b ms d = ck at h0 hkc hce ⊢
    have z0 : (ck != 0) = true := bne_iff_ne.mpr h0
    have HKC := Aside0.mk hkc
    clear h0 hs I2 hkc hce
    go_wp2_with (fail)
    refine (awk_calls _).mono ?_
    rintro e w3 ⟨rfl, hb⟩
    have B3 := Aside0.mk (B2.out.trans (hb.mono B2.out.size))
    clear hb X2 eX2_0 eX2_1 eX2_2 eX2_3
    have X3 := Aside0.mk ((B3.out.block _ LX.out).trans XA.out)
    have eX3_0 := (blk_cell X3.out 0).trans rfl
    have eX3_1 := (blk_cell X3.out 1).trans rfl
    have eX3_2 := (blk_cell X3.out 2).trans rfl
    have eX3_3 := (blk_cell X3.out 3).trans rfl
    go_wp2_with (fail)
    refine (shot_Check.calls kc a b A c ms d ck _ (Kd.C_below CA.out B3.out) HCC.out HKC.out).mono ?_
    rintro e w4 ⟨rfl, hb⟩
    have B4 := Aside0.mk (B3.out.trans (hb.mono B3.out.size))
    clear hb
    go_wp2
    go_ret
    exact ⟨rfl, BA.out.trans (B4.out.mono BA.out.size)⟩
theorem w_ShotFull (W : World) (cs0 : Array Value) (a0 : S24) (K0 : k24.K W a0 cs0.toList) (g0 : ((Lit.int .i64 a0.f0).wf = true ∧ ((Lit.int .i64 a0.f1).wf = true ∧ ((a0.f2.length * 8 ≤ 140737488351232 ∧ ∀ y0 ∈ a0.f2, (Lit.int .i64 y0).wf = true) ∧ a0.f3.size ≤ 140737488351232)))) (cs1 : Array Value) (a1 : S24) (K1 : k24.K W a1 cs1.toList) (g1 : ((Lit.int .i64 a1.f0).wf = true ∧ ((Lit.int .i64 a1.f1).wf = true ∧ ((a1.f2.length * 8 ≤ 140737488351232 ∧ ∀ y0 ∈ a1.f2, (Lit.int .i64 y0).wf = true) ∧ a1.f3.size ≤ 140737488351232)))) (a2 : Int) (g2 : (Lit.int .i64 a2).wf = true) :
    Calls Try.prog 5 #[.agg cs0, .agg cs1, .int .i64 a2] W fun e w' => e = .returned (.bool true) ∧ Below W.heap.size W w' := by
  obtain ⟨A, c, rfl, hl, hC⟩ := k24_agg K0
  obtain ⟨A', c', rfl, hl', hC'⟩ := k24_agg K1
  exact walkShotFull W A c a0.f0 a0.f1 a0.f2 a0.f3 hC hl (by have := g0.2.2.1.1; omega) A' c' a1.f0 a1.f1 a1.f2 a1.f3 hC' hl' (by have := g1.2.2.1.1; omega) a2
end Go.Proofs.Ythjfofgcikfepaa.Q
