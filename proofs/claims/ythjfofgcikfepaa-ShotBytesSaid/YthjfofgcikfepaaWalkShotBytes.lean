/- ShotBytes answers true at every input. -/
import Derived.Outline
import Derived.StillTailTactics
import Derived.Deep.AppendLies
import Derived.Test.YthjfofgcikfepaaShR
import Derived.Test.YthjfofgcikfepaaShE
namespace Go.Proofs.Ythjfofgcikfepaa.Q
open Go.Maps Go.WideShapes Go.WideMaps Go.RowKit Go.Proofs.YthjfofgcikfepaaW.PrintWords Go.Proofs.YthjfofgcikfepaaW.PrintLast Go.Proofs.YthjfofgcikfepaaW.PrintMore
set_option linter.unusedVariables false
set_option linter.unusedSimpArgs false
set_option maxHeartbeats 10000000
set_option maxRecDepth 100000
/-! ShotBytes -/
theorem decS_len (t : ByteArray) : (decS 7 t).2.2.1.length ≤ 1000000000000000000 := by
  rcases dec_cases 7 t with h | ⟨a, b, ms, d, h, h0⟩
  · rw [h]; exact Nat.zero_le _
  · rw [h]; exact Nat.le_trans (fineS h0).l1 (by decide)
theorem walkShotBytes (w : World) (A : Option Addr) (c : Nat) (a b : Int) (ms : List Int) (d : ByteArray) (hC : Kd.C (Kd.int .i64) w A ms.length ms) (hc : ms.length ≤ c) (t : ByteArray) (ht : t.size ≤ 140737488351232) :
    Calls Try.prog 3 #[.agg #[.int .i64 a, .int .i64 b, .slice A ms.length c, .string d], .string t] w fun e w' => e = .returned (.bool true) ∧ Below w.heap.size w w' := by
  have hu := Try.underlying24
  have hu2 := Try.underlying30
  have HCC := Aside0.mk hc
  have HT := Aside0.mk ht
  obtain ⟨k1, hk1⟩ := (enc_ev a b ms d).rounds
  obtain ⟨k2, hk2⟩ := (renc_ev a b ms d).rounds
  obtain ⟨k3, hk3⟩ := (dec_ev t ht).rounds
  obtain ⟨k5, hk5⟩ := (rdec_ev t ht).rounds
  obtain ⟨kc, hkc⟩ := (chk_ev a b ms d).rounds
  obtain ⟨kr, hkr⟩ := (rchk_ev a b ms d).rounds
  have hlen := decS_len t
  generalize encS a b ms d = p at hk1 hk2
  generalize decS 7 t = q at hk3 hk5 hlen
  generalize chkS a b ms d = ck at hkc hkr
  obtain ⟨s1, e1⟩ := p
  obtain ⟨x, y, mz, dz, g⟩ := q
  obtain ⟨k4, hk4⟩ := (same_ev x y mz dz x y mz dz hlen).rounds
  rw [sameS_refl] at hk4
  have HS := Aside0.mk hk4
  have H1 := Aside0.mk hk1
  have H2 := Aside0.mk hk2
  have H3 := Aside0.mk hk3
  have H5 := Aside0.mk hk5
  have HKC := Aside0.mk hkc
  have HKR := Aside0.mk hkr
  have b1 : Below w.heap.size w (w.alloc (.cells #[.int .i64 a, .int .i64 b, .slice A ms.length c, .string d] 24 (0, 0))) := below_alloc (Below.refl _ _) _
  have XA := Aside0.mk (heap_alloc_new w (.cells #[.int .i64 a, .int .i64 b, .slice A ms.length c, .string d] 24 (0, 0)))
  have BA := Aside0.mk b1
  have CA := Aside0.mk (Kd.C_below hC b1)
  clear hC hc ht hk1 hk2 hk3 hk4 hk5 hkc hkr hlen b1
  have eXA_0 := (blk_cell XA.out 0).trans rfl
  have eXA_1 := (blk_cell XA.out 1).trans rfl
  have eXA_2 := (blk_cell XA.out 2).trans rfl
  have eXA_3 := (blk_cell XA.out 3).trans rfl
  go_enter Try.func3, Try.ntmps3
  go_wp2_with (fail)
  generalize w.alloc (.cells #[.int .i64 a, .int .i64 b, .slice A ms.length c, .string d] 24 (0, 0)) = wA at XA BA CA ⊢
  have LX := Aside0.mk (blk_lt XA.out)
  refine (shot_Encode.calls k1 a b A c ms d s1 e1 _ CA.out HCC.out H1.out).mono ?_
  rintro e w2 ⟨rfl, hb⟩
  have B2 := Aside0.mk hb
  have X2 := Aside0.mk ((hb.block _ LX.out).trans XA.out)
  clear hb eXA_0 eXA_1 eXA_2 eXA_3
  have eX2_0 := (blk_cell X2.out 0).trans rfl
  have eX2_1 := (blk_cell X2.out 1).trans rfl
  have eX2_2 := (blk_cell X2.out 2).trans rfl
  have eX2_3 := (blk_cell X2.out 3).trans rfl
  go_wp2_with (fail)
  refine (ref_calls a b A ms.length c d _).mono ?_
  rintro e w3 ⟨rfl, hb⟩
  have B3 := Aside0.mk (B2.out.trans (hb.mono B2.out.size))
  clear hb X2 B2 eX2_0 eX2_1 eX2_2 eX2_3
  go_wp2_with (fail)
  refine (stowageref07_Encode.calls k2 a b A c ms d s1 e1 _ (Kd.C_below CA.out B3.out) HCC.out H2.out).mono ?_
  rintro e w4 ⟨rfl, hb⟩
  have B4 := Aside0.mk (B3.out.trans (hb.mono B3.out.size))
  clear hb B3
  go_wp2_with (fail)
  refine (shot_Decode.calls k3 t x y mz dz g _ H3.out).mono ?_
  rintro e w5 ⟨v, rfl, hR, hb⟩
  obtain ⟨A5, c5, rfl, hlc, hC5⟩ := Kd.R_reads hR
  have B5 := Aside0.mk (B4.out.trans (hb.mono B4.out.size))
  have LC5 := Aside0.mk hlc
  have C5 := Aside0.mk hC5
  have b6 : Below w5.heap.size w5 (w5.alloc (.cells #[.int .i64 x, .int .i64 y, .slice A5 mz.length c5, .string dz] 24 (0, 0))) := below_alloc (Below.refl _ _) _
  have Z6 := Aside0.mk (heap_alloc_new w5 (.cells #[.int .i64 x, .int .i64 y, .slice A5 mz.length c5, .string dz] 24 (0, 0)))
  have B6 := Aside0.mk (B5.out.trans (b6.mono B5.out.size))
  have F6 := Aside0.mk b6
  clear hR hb hlc hC5 b6 B4
  go_wp2_with (fail)
  generalize w5.alloc (.cells #[.int .i64 x, .int .i64 y, .slice A5 mz.length c5, .string dz] 24 (0, 0)) = w6 at Z6 B6 F6 ⊢
  have LZ := Aside0.mk (blk_lt Z6.out)
  refine (stowageref07_Decode.calls k5 t x y mz dz g _ H5.out).mono ?_
  rintro e w7 ⟨v, rfl, hR, hb⟩
  obtain ⟨A7, c7, rfl, hlc, hC7⟩ := Kd.R_reads hR
  have B7 := Aside0.mk (B6.out.trans (hb.mono B6.out.size))
  have F7 := Aside0.mk (F6.out.trans (hb.mono F6.out.size))
  have Z7 := Aside0.mk ((hb.block _ LZ.out).trans Z6.out)
  have LC7 := Aside0.mk hlc
  have C7 := Aside0.mk hC7
  have b8 : Below w7.heap.size w7 (w7.alloc (.cells #[.int .i64 x, .int .i64 y, .slice A7 mz.length c7, .string dz] 30 (0, 0))) := below_alloc (Below.refl _ _) _
  have VE := Aside0.mk (heap_alloc_new w7 (.cells #[.int .i64 x, .int .i64 y, .slice A7 mz.length c7, .string dz] 30 (0, 0)))
  have EE := Aside0.mk (B7.out.trans (b8.mono B7.out.size))
  have FE := Aside0.mk (F7.out.trans (b8.mono F7.out.size))
  have DE := Aside0.mk b8
  have ZE := Aside0.mk ((b8.block _ (blk_lt Z7.out)).trans Z7.out)
  clear hR hb hlc hC7 b8 Z6 B6 F6 Z7 B7 F7
  go_upto_region 5 with (fail)
  generalize w7.alloc (.cells #[.int .i64 x, .int .i64 y, .slice A7 mz.length c7, .string dz] 30 (0, 0)) = wE at VE EE FE DE ZE ⊢
  have XE := Aside0.mk ((EE.out.block _ LX.out).trans XA.out)
  have BT := Aside0.mk (BA.out.trans (EE.out.mono BA.out.size))
  have eXE_0 := (blk_cell XE.out 0).trans rfl
  have eXE_1 := (blk_cell XE.out 1).trans rfl
  have eXE_2 := (blk_cell XE.out 2).trans rfl
  have eXE_3 := (blk_cell XE.out 3).trans rfl
  have eZE_0 := (blk_cell ZE.out 0).trans rfl
  have eZE_1 := (blk_cell ZE.out 1).trans rfl
  have eZE_2 := (blk_cell ZE.out 2).trans rfl
  have eZE_3 := (blk_cell ZE.out 3).trans rfl
  have eVE_0 := (blk_cell VE.out 0).trans rfl
  have eVE_1 := (blk_cell VE.out 1).trans rfl
  have eVE_2 := (blk_cell VE.out 2).trans rfl
  have eVE_3 := (blk_cell VE.out 3).trans rfl
  have XH_0 := Aside0.mk (blk_drew XE.out)
  have ZH_0 := Aside0.mk (blk_drew ZE.out)
  have VH_0 := Aside0.mk (blk_drew VE.out)
  have BH_0 := Aside0.mk (below_drew1 BT.out)
  have DH_0 := Aside0.mk DE.out.drew
  have EH_0 := Aside0.mk EE.out.drew
  have FH_0 := Aside0.mk FE.out.drew
  have z1 : (ck == ck) = true := by simp
  have z2 : (s1.toList == s1.toList) = true := by simp
  have z3 : (e1 == e1) = true := by simp
  have z4 : (g == g) = true := by simp
  clear XE ZE VE BT DE EE FE XA
  go_region_held3 (fun w' => w'.cell? ⟨w.heap.size, 0, none⟩ = some (.int .i64 a) ∧ w'.cell? ⟨w.heap.size, 1, none⟩ = some (.int .i64 b) ∧ w'.cell? ⟨w.heap.size, 2, none⟩ = some (.slice A ms.length c) ∧ w'.cell? ⟨w.heap.size, 3, none⟩ = some (.string d) ∧ w'.cell? ⟨w5.heap.size, 0, none⟩ = some (.int .i64 x) ∧ w'.cell? ⟨w5.heap.size, 1, none⟩ = some (.int .i64 y) ∧ w'.cell? ⟨w5.heap.size, 2, none⟩ = some (.slice A5 mz.length c5) ∧ w'.cell? ⟨w5.heap.size, 3, none⟩ = some (.string dz) ∧ w'.cell? ⟨w7.heap.size, 0, none⟩ = some (.int .i64 x) ∧ w'.cell? ⟨w7.heap.size, 1, none⟩ = some (.int .i64 y) ∧ w'.cell? ⟨w7.heap.size, 2, none⟩ = some (.slice A7 mz.length c7) ∧ w'.cell? ⟨w7.heap.size, 3, none⟩ = some (.string dz)) (go_keep)
    ((first
      | (go_at_call 16; refine (awk_calls wE.drew).mono ?_; rintro e wh1 ⟨rfl, hbh0⟩; have XH_1 := Aside0.mk (blk_below XH_0.out hbh0); have ZH_1 := Aside0.mk (blk_below ZH_0.out hbh0); have VH_1 := Aside0.mk (blk_below VH_0.out hbh0); have BH_1 := Aside0.mk (below_step BH_0.out hbh0); have DH_1 := Aside0.mk (DH_0.out.trans (hbh0.mono DH_0.out.size)); have EH_1 := Aside0.mk (EH_0.out.trans (hbh0.mono EH_0.out.size)); have FH_1 := Aside0.mk (FH_0.out.trans (hbh0.mono FH_0.out.size)); clear hbh0; have qh1_0_0 := (blk_cell XH_1.out 0).trans rfl; have qh1_0_1 := (blk_cell XH_1.out 1).trans rfl; have qh1_0_2 := (blk_cell XH_1.out 2).trans rfl; have qh1_0_3 := (blk_cell XH_1.out 3).trans rfl; have qh1_1_0 := (blk_cell ZH_1.out 0).trans rfl; have qh1_1_1 := (blk_cell ZH_1.out 1).trans rfl; have qh1_1_2 := (blk_cell ZH_1.out 2).trans rfl; have qh1_1_3 := (blk_cell ZH_1.out 3).trans rfl; have qh1_2_0 := (blk_cell VH_1.out 0).trans rfl; have qh1_2_1 := (blk_cell VH_1.out 1).trans rfl; have qh1_2_2 := (blk_cell VH_1.out 2).trans rfl; have qh1_2_3 := (blk_cell VH_1.out 3).trans rfl)
      | (go_at_call 17; refine (shot_Check.calls kc a b A c ms d ck wh1 (Kd.C_below CA.out EH_1.out) HCC.out HKC.out).mono ?_; rintro e wh2 ⟨rfl, hbh1⟩; have XH_2 := Aside0.mk (blk_below XH_1.out hbh1); have ZH_2 := Aside0.mk (blk_below ZH_1.out hbh1); have VH_2 := Aside0.mk (blk_below VH_1.out hbh1); have BH_2 := Aside0.mk (below_step BH_1.out hbh1); have DH_2 := Aside0.mk (DH_1.out.trans (hbh1.mono DH_1.out.size)); have EH_2 := Aside0.mk (EH_1.out.trans (hbh1.mono EH_1.out.size)); have FH_2 := Aside0.mk (FH_1.out.trans (hbh1.mono FH_1.out.size)); clear hbh1; have qh2_0_0 := (blk_cell XH_2.out 0).trans rfl; have qh2_0_1 := (blk_cell XH_2.out 1).trans rfl; have qh2_0_2 := (blk_cell XH_2.out 2).trans rfl; have qh2_0_3 := (blk_cell XH_2.out 3).trans rfl; have qh2_1_0 := (blk_cell ZH_2.out 0).trans rfl; have qh2_1_1 := (blk_cell ZH_2.out 1).trans rfl; have qh2_1_2 := (blk_cell ZH_2.out 2).trans rfl; have qh2_1_3 := (blk_cell ZH_2.out 3).trans rfl; have qh2_2_0 := (blk_cell VH_2.out 0).trans rfl; have qh2_2_1 := (blk_cell VH_2.out 1).trans rfl; have qh2_2_2 := (blk_cell VH_2.out 2).trans rfl; have qh2_2_3 := (blk_cell VH_2.out 3).trans rfl)
      | (go_at_call 13; refine (ref_calls a b A ms.length c d wh2).mono ?_; rintro e wh3 ⟨rfl, hbh2⟩; have XH_3 := Aside0.mk (blk_below XH_2.out hbh2); have ZH_3 := Aside0.mk (blk_below ZH_2.out hbh2); have VH_3 := Aside0.mk (blk_below VH_2.out hbh2); have BH_3 := Aside0.mk (below_step BH_2.out hbh2); have DH_3 := Aside0.mk (DH_2.out.trans (hbh2.mono DH_2.out.size)); have EH_3 := Aside0.mk (EH_2.out.trans (hbh2.mono EH_2.out.size)); have FH_3 := Aside0.mk (FH_2.out.trans (hbh2.mono FH_2.out.size)); clear hbh2; have qh3_0_0 := (blk_cell XH_3.out 0).trans rfl; have qh3_0_1 := (blk_cell XH_3.out 1).trans rfl; have qh3_0_2 := (blk_cell XH_3.out 2).trans rfl; have qh3_0_3 := (blk_cell XH_3.out 3).trans rfl; have qh3_1_0 := (blk_cell ZH_3.out 0).trans rfl; have qh3_1_1 := (blk_cell ZH_3.out 1).trans rfl; have qh3_1_2 := (blk_cell ZH_3.out 2).trans rfl; have qh3_1_3 := (blk_cell ZH_3.out 3).trans rfl; have qh3_2_0 := (blk_cell VH_3.out 0).trans rfl; have qh3_2_1 := (blk_cell VH_3.out 1).trans rfl; have qh3_2_2 := (blk_cell VH_3.out 2).trans rfl; have qh3_2_3 := (blk_cell VH_3.out 3).trans rfl)
      | (go_at_call 18; refine (stowageref07_Check.calls kr a b A c ms d ck wh3 (Kd.C_below CA.out EH_3.out) HCC.out HKR.out).mono ?_; rintro e wh4 ⟨rfl, hbh3⟩; have XH_4 := Aside0.mk (blk_below XH_3.out hbh3); have ZH_4 := Aside0.mk (blk_below ZH_3.out hbh3); have VH_4 := Aside0.mk (blk_below VH_3.out hbh3); have BH_4 := Aside0.mk (below_step BH_3.out hbh3); have DH_4 := Aside0.mk (DH_3.out.trans (hbh3.mono DH_3.out.size)); have EH_4 := Aside0.mk (EH_3.out.trans (hbh3.mono EH_3.out.size)); have FH_4 := Aside0.mk (FH_3.out.trans (hbh3.mono FH_3.out.size)); clear hbh3; have qh4_0_0 := (blk_cell XH_4.out 0).trans rfl; have qh4_0_1 := (blk_cell XH_4.out 1).trans rfl; have qh4_0_2 := (blk_cell XH_4.out 2).trans rfl; have qh4_0_3 := (blk_cell XH_4.out 3).trans rfl; have qh4_1_0 := (blk_cell ZH_4.out 0).trans rfl; have qh4_1_1 := (blk_cell ZH_4.out 1).trans rfl; have qh4_1_2 := (blk_cell ZH_4.out 2).trans rfl; have qh4_1_3 := (blk_cell ZH_4.out 3).trans rfl; have qh4_2_0 := (blk_cell VH_4.out 0).trans rfl; have qh4_2_1 := (blk_cell VH_4.out 1).trans rfl; have qh4_2_2 := (blk_cell VH_4.out 2).trans rfl; have qh4_2_3 := (blk_cell VH_4.out 3).trans rfl)
      | (go_at_call 13; refine (ref_calls x y A5 mz.length c5 dz wh4).mono ?_; rintro e wh5 ⟨rfl, hbh4⟩; have XH_5 := Aside0.mk (blk_below XH_4.out hbh4); have ZH_5 := Aside0.mk (blk_below ZH_4.out hbh4); have VH_5 := Aside0.mk (blk_below VH_4.out hbh4); have BH_5 := Aside0.mk (below_step BH_4.out hbh4); have DH_5 := Aside0.mk (DH_4.out.trans (hbh4.mono DH_4.out.size)); have EH_5 := Aside0.mk (EH_4.out.trans (hbh4.mono EH_4.out.size)); have FH_5 := Aside0.mk (FH_4.out.trans (hbh4.mono FH_4.out.size)); clear hbh4; have qh5_0_0 := (blk_cell XH_5.out 0).trans rfl; have qh5_0_1 := (blk_cell XH_5.out 1).trans rfl; have qh5_0_2 := (blk_cell XH_5.out 2).trans rfl; have qh5_0_3 := (blk_cell XH_5.out 3).trans rfl; have qh5_1_0 := (blk_cell ZH_5.out 0).trans rfl; have qh5_1_1 := (blk_cell ZH_5.out 1).trans rfl; have qh5_1_2 := (blk_cell ZH_5.out 2).trans rfl; have qh5_1_3 := (blk_cell ZH_5.out 3).trans rfl; have qh5_2_0 := (blk_cell VH_5.out 0).trans rfl; have qh5_2_1 := (blk_cell VH_5.out 1).trans rfl; have qh5_2_2 := (blk_cell VH_5.out 2).trans rfl; have qh5_2_3 := (blk_cell VH_5.out 3).trans rfl)
      | (go_at_call 19; refine (stowageref07_Same.calls k4 x y A5 c5 mz dz x y A7 c7 mz dz true wh5 (Kd.C_below C5.out FH_5.out) LC5.out (Kd.C_below C7.out DH_5.out) LC7.out HS.out).mono ?_; rintro e wh6 ⟨rfl, hbh5⟩; have XH_6 := Aside0.mk (blk_below XH_5.out hbh5); have ZH_6 := Aside0.mk (blk_below ZH_5.out hbh5); have VH_6 := Aside0.mk (blk_below VH_5.out hbh5); have BH_6 := Aside0.mk (below_step BH_5.out hbh5); have DH_6 := Aside0.mk (DH_5.out.trans (hbh5.mono DH_5.out.size)); have EH_6 := Aside0.mk (EH_5.out.trans (hbh5.mono EH_5.out.size)); have FH_6 := Aside0.mk (FH_5.out.trans (hbh5.mono FH_5.out.size)); clear hbh5; have qh6_0_0 := (blk_cell XH_6.out 0).trans rfl; have qh6_0_1 := (blk_cell XH_6.out 1).trans rfl; have qh6_0_2 := (blk_cell XH_6.out 2).trans rfl; have qh6_0_3 := (blk_cell XH_6.out 3).trans rfl; have qh6_1_0 := (blk_cell ZH_6.out 0).trans rfl; have qh6_1_1 := (blk_cell ZH_6.out 1).trans rfl; have qh6_1_2 := (blk_cell ZH_6.out 2).trans rfl; have qh6_1_3 := (blk_cell ZH_6.out 3).trans rfl; have qh6_2_0 := (blk_cell VH_6.out 0).trans rfl; have qh6_2_1 := (blk_cell VH_6.out 1).trans rfl; have qh6_2_2 := (blk_cell VH_6.out 2).trans rfl; have qh6_2_3 := (blk_cell VH_6.out 3).trans rfl)))
  go_wp2
  go_ret
  exact ⟨rfl, BH_6.out⟩
theorem w_ShotBytes (W : World) (cs0 : Array Value) (a0 : S24) (K0 : k24.K W a0 cs0.toList) (g0 : ((Lit.int .i64 a0.f0).wf = true ∧ ((Lit.int .i64 a0.f1).wf = true ∧ ((a0.f2.length * 8 ≤ 140737488351232 ∧ ∀ y0 ∈ a0.f2, (Lit.int .i64 y0).wf = true) ∧ a0.f3.size ≤ 140737488351232)))) (a1 : ByteArray) (g1 : a1.size ≤ 140737488351232) :
    Calls Try.prog 3 #[.agg cs0, .string a1] W fun e w' => e = .returned (.bool true) ∧ Below W.heap.size W w' := by
  obtain ⟨A, c, rfl, hl, hC⟩ := k24_agg K0
  exact walkShotBytes W A c a0.f0 a0.f1 a0.f2 a0.f3 hC hl a1 g1
end Go.Proofs.Ythjfofgcikfepaa.Q
