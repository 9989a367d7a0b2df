/- ShotLoads answers true at every input. -/
import Derived.Outline
import Derived.StillTailTactics
import Derived.Deep.AppendLies
import Derived.Test.YthjfofgcikfepaaShL
namespace Go.Proofs.Ythjfofgcikfepaa.Q
open Go.Maps Go.WideShapes Go.WideMaps Go.RowKit Go.Proofs.YthjfofgcikfepaaW.PrintWords Go.Proofs.YthjfofgcikfepaaW.PrintLast Go.Proofs.YthjfofgcikfepaaW.PrintMore
set_option linter.unusedVariables false
set_option linter.unusedSimpArgs false
set_option maxHeartbeats 10000000
set_option maxRecDepth 100000
/-! ShotLoads -/
theorem walkShotLoads (w : World) (snap fresh : ByteArray) (hs : snap.size ≤ 140737488351232) (hf : fresh.size ≤ 140737488351232) (which : Int) :
  Calls Try.prog 10 #[.string snap, .string fresh, .int .i64 which] w fun e w' => e = .returned (.bool true) ∧ Below w.heap.size w w' := by
 have hu := Try.underlying24
 have hu2 := Try.underlying30
 have H1 : Aside0 (snap.size ≤ 140737488351232 ∧ fresh.size ≤ 140737488351232) := ⟨hs, hf⟩
 clear hs hf
 go_enter Try.func10, Try.ntmps10
 go_wp2_with (fail)
 refine (new_calls w).mono ?_
 rintro e w1 ⟨dd, rfl, hI, hb⟩
 have B1 := Aside0.mk hb
 have I1 : Aside0 (IsD w1 dd (fun k => w.heap.size ≤ k) (free none none [] 0)) := ⟨hI⟩
 clear hI hb
 by_cases a1 : Go.bits .and .i64 which 1 = 1
 ·have b1 : (Go.bits .and .i64 which 1 == 1) = true := beq_iff_eq.mpr a1
  by_cases a2 : Go.bits .and .i64 which 2 = 2
  ·have b2 : (Go.bits .and .i64 which 2 == 2) = true := beq_iff_eq.mpr a2
   clear a1 a2
   go_wp2_with (fail)
   refine (write_calls (st := free none none [] 0) I1.out (fun k hk => Nat.le_trans B1.out.size hk) nS snap (by decide) ⟨by show totF (snF none none) ≤ _; rw [snF_tot]; have := H1.out; show 0 + 0 ≤ _; omega, by have := H1.out; omega⟩ (fun _ _ => ⟨okC_S (by have := H1.out; show 0 + 0 + snap.size ≤ _; omega), by show (0 + 1) * 64 ≤ _; decide, ⟨by show (0 : Int) ≤ 0; decide, by show (0 : Int) < _; decide⟩, by show (0 : Nat) * 24 ≤ _; decide, ⟨okC_S (by have := H1.out; show 0 + 0 + snap.size ≤ _; omega), trivial⟩⟩)).mono ?_
   rintro e w1a ⟨rfl, hI, hK⟩
   rw [write_freeS none none [] 0] at hI ⊢
   have B1a := Aside0.mk (B1.out.trans (hK.below B1.out.size))
   have I1a : Aside0 (IsD w1a dd (fun k => w.heap.size ≤ k) (free (some snap) none [cS snap] (0 + 1))) := ⟨hI⟩
   clear hI hK I1 B1
   go_wp2_with (fail)
   refine (write_calls (st := free (some snap) none [cS snap] (0 + 1)) I1a.out (fun k hk => Nat.le_trans B1a.out.size hk) nN fresh (by decide) ⟨by show totF (snF (some snap) none) ≤ _; rw [snF_tot]; have := H1.out; show snap.size + 0 ≤ _; omega, by have := H1.out; omega⟩ (fun _ _ => ⟨okC_W (by have := H1.out; show snap.size + 0 + fresh.size ≤ _; omega), by show (1 + 1) * 64 ≤ _; decide, ⟨by show (0 : Int) ≤ (0 + 1); decide, by show ((0 + 1) : Int) < _; decide⟩, by show (0 : Nat) * 24 ≤ _; decide, ⟨okC_S (x := none) (y := none) (by have := H1.out; show 0 + 0 + snap.size ≤ _; omega), (do_S none none snap ▸ okC_W (by have := H1.out; show snap.size + 0 + fresh.size ≤ _; omega) : OkC (doC (snF none none) (cS snap)) (cW fresh)), trivial⟩⟩)).mono ?_
   rintro e w1b ⟨rfl, hI, hK⟩
   rw [write_freeN (some snap) none [cS snap] (0 + 1)] at hI ⊢
   have B1b := Aside0.mk (B1a.out.trans (hK.below B1a.out.size))
   have I1b : Aside0 (IsD w1b dd (fun k => w.heap.size ≤ k) (free (some snap) (some fresh) [cS snap, cW fresh] ((0 + 1) + 1))) := ⟨hI⟩
   clear hI hK I1a B1a
   go_wp2_with (fail)
   refine (sync_calls I1b.out (fun k hk => Nat.le_trans B1b.out.size hk)).mono ?_
   rintro e w2 ⟨rfl, hI, hK⟩
   have hsy := sync_up (free (some snap) (some fresh) [cS snap, cW fresh] ((0 + 1) + 1)) rfl
   rw [hsy.2]
   rw [hsy.1] at hI
   have B2 := Aside0.mk (B1b.out.trans (hK.below B1b.out.size))
   obtain ⟨n, hn⟩ : ∃ n : Int, n = ((0 + 1) + 1) := ⟨_, rfl⟩
   have I2x : Aside0 (IsD w2 dd (fun k => w.heap.size ≤ k) (idle (some snap) (some fresh) n [] (-1) false)) := ⟨by rw [hn]; exact hI⟩
   have HX : Aside0 (osz (some snap) ≤ 140737488351232) := ⟨by have := H1.out; show snap.size ≤ _; omega⟩
   have HY : Aside0 (osz (some fresh) ≤ 140737488351232) := ⟨by have := H1.out; show fresh.size ≤ _; omega⟩
   have HN : Aside0 (0 ≤ n ∧ n ≤ (100000 : Int)) := ⟨by rw [hn]; decide⟩
   clear hI hK hsy I1b B1b H1 hn
   obtain ⟨x, hx⟩ : ∃ x, x = (some snap) := ⟨_, rfl⟩
   obtain ⟨y, hy⟩ : ∃ y, y = (some fresh) := ⟨_, rfl⟩
   have I2y : Aside0 (IsD w2 dd (fun k => w.heap.size ≤ k) (idle x y n [] (-1) false)) := ⟨by rw [hx, hy]; exact I2x.out⟩
   have HXx := HX
   have HYy := HY
   clear HX HY
   have HX : Aside0 (osz x ≤ 140737488351232) := ⟨by rw [hx]; exact HXx.out⟩
   have HY : Aside0 (osz y ≤ 140737488351232) := ⟨by rw [hy]; exact HYy.out⟩
   clear hx hy HXx HYy I2x
   obtain ⟨kL, hkL⟩ := (rload_ev x y HX.out).rounds
   obtain ⟨n', hlk⟩ := load_nofall x y n (-1)
   have hlen := loadR_len x
   obtain ⟨R, hR⟩ : ∃ R, R = loadR x := ⟨_, rfl⟩
   rw [← hR] at hkL hlen
   obtain ⟨⟨ra, rb, rm, rd⟩, ri, re⟩ := R
   obtain ⟨k4, hk4⟩ := (same_ev ra rb rm rd ra rb rm rd hlen).rounds
   rw [sameS_refl] at hk4
   have HLD := Aside0.mk hkL
   have HS := Aside0.mk hk4
   have HLK := Aside0.mk hlk
   have HRR := Aside0.mk hR
   clear hkL hk4 hlk hR hlen
   have I2 := I2y
   clear I2y
   go_wp2_with (fail)
   refine (files_calls I2.out (fine_idle _ _ _ _ _)).mono ?_
   rintro e w3 ⟨v3, rfl, hR3, hb⟩
   obtain ⟨A3, c3, rfl, hl3, hC3⟩ := Kd.R_reads hR3
   have B3 := Aside0.mk (B2.out.trans (hb.mono B2.out.size))
   have I3 := Aside0.mk (I2.out.below hb).bound
   have HC3 := Aside0.mk hC3
   have HL3 := Aside0.mk hl3
   clear hR3 hb hC3 hl3 B2 I2
   go_wp2_with (fail)
   refine (stowageref07_Load.calls kL A3 c3 (filesL (snF x y)) ra rb rm rd ri re _ HC3.out HL3.out HLD.out).mono ?_
   rintro e w4 ⟨v4, rfl, hR4, hb4⟩
   obtain ⟨A4, c4, e4, hl4, hC4⟩ := Kd.R_reads hR4
   subst e4
   have LC4 := Aside0.mk hl4
   have b5 : Below w4.heap.size w4 (w4.alloc (.cells #[.int .i64 ra, .int .i64 rb, .slice A4 rm.length c4, .string rd] 30 (0, 0))) := below_alloc (Below.refl _ _) _
   have V5 := Aside0.mk (heap_alloc_new w4 (.cells #[.int .i64 ra, .int .i64 rb, .slice A4 rm.length c4, .string rd] 30 (0, 0)))
   have b35 := hb4.trans (b5.mono hb4.size)
   have B5 := Aside0.mk (B3.out.trans (b35.mono B3.out.size))
   have R5 := Aside0.mk (Kd.R_bound (Kd.R_below hR4 b5))
   have I5 := Aside0.mk (I3.out.below b35)
   have N4 : Aside0 (w3.heap.size ≤ w4.heap.size ∧ w.heap.size ≤ w3.heap.size) := ⟨hb4.size, B3.out.size⟩
   clear hR4 hl4 hC4 hb4 b5 b35 HC3 HL3 B3 I3
   go_wp2_with (fail)
   generalize w4.alloc (.cells #[.int .i64 ra, .int .i64 rb, .slice A4 rm.length c4, .string rd] 30 (0, 0)) = w5 at V5 B5 R5 I5 ⊢
   have L5 := Aside0.mk (blk_lt V5.out)
   have J5 := Aside0.mk (I5.out.mono (ok' := fun k => (w.heap.size ≤ k ∧ k < w3.heap.size) ∨ w5.heap.size ≤ k) (fun k hk => Or.inl ⟨hk.1, hk.2⟩))
   refine (load_calls J5.out (fun k hk => Or.inr hk) HX.out (by have := HX.out; have := HY.out; omega) HN.out (by decide) ((ra, rb, rm, rd), ri, re) (by rw [HLK.out]; exact HRR.out)).mono ?_
   rintro e w6 ⟨v6, rfl, hR6, hI6, hK6⟩
   rw [HLK.out] at hI6
   have V6 := Aside0.mk ((hK6.block _ L5.out (fun e => e.elim (fun e => by have := N4.out; omega) (fun e => by have := L5.out; omega))).trans V5.out)
   have hrw := Kd.R_step R5.out (fun k hk hlt => hK6.block k hlt (fun e => e.elim (fun e => by have := hk.2.1; omega) (fun e => by omega)))
   have CWx := Aside0.mk (Kd.R_reads' hrw).2.2
   obtain ⟨A6, c6, e6, hl6, hC6⟩ := Kd.R_reads hR6
   subst e6
   have LC6 := Aside0.mk hl6
   have B6 := Aside0.mk (B5.out.trans ((hK6.mono (ok' := fun k => w.heap.size ≤ k) (fun k _ hk => hk.elim (fun h => h.1) (fun h => Nat.le_trans B5.out.size h))).below B5.out.size))
   have I6 := Aside0.mk hI6
   have b7 : Below w6.heap.size w6 (w6.alloc (.cells #[.int .i64 ra, .int .i64 rb, .slice A6 rm.length c6, .string rd] 24 (0, 0))) := below_alloc (Below.refl _ _) _
   have Z7 := Aside0.mk (heap_alloc_new w6 (.cells #[.int .i64 ra, .int .i64 rb, .slice A6 rm.length c6, .string rd] 24 (0, 0)))
   have C6 := Aside0.mk hC6
   have CW := CWx
   have L6 := Aside0.mk (blk_lt V6.out)
   have B7 := Aside0.mk (B6.out.trans (b7.mono B6.out.size))
   have D7 := Aside0.mk b7
   have V7 := Aside0.mk ((b7.block _ L6.out).trans V6.out)
   have I7 := Aside0.mk (I6.out.below b7)
   clear hR6 hI6 hK6 hl6 hC6 hrw b7 CWx V5 R5 I5 J5 B5 V6 B6 I6
   go_wp2_with (fail)
   generalize w6.alloc (.cells #[.int .i64 ra, .int .i64 rb, .slice A6 rm.length c6, .string rd] 24 (0, 0)) = w7 at Z7 B7 D7 V7 I7 ⊢
   refine (read_calls I7.out nN (by decide)).mono ?_
   rintro e w8 ⟨rfl, hb⟩
   rw [read_N]
   have B8 := Aside0.mk (B7.out.trans (hb.mono B7.out.size))
   have D8 := Aside0.mk (D7.out.trans (hb.mono D7.out.size))
   have Z8 := Aside0.mk ((hb.block _ (blk_lt Z7.out)).trans Z7.out)
   have V8 := Aside0.mk ((hb.block _ (blk_lt V7.out)).trans V7.out)
   have I8 := Aside0.mk (I7.out.below hb)
   clear hb B7 D7 Z7 V7 I7
   simp only [Option.isSome_none, Bool.false_eq_true, if_false]
   go_wp2_with (fail)
   refine (nil_Load _).mono ?_
   rintro e w9 ⟨rfl, hb⟩
   have bn : Below w9.heap.size w9 (w9.alloc (.cells #[.int .i64 0, .int .i64 0, .slice none 0 0, .string ⟨#[]⟩] 24 (0, 0))) := below_alloc (Below.refl _ _) _
   have b9 := hb.trans (bn.mono hb.size)
   have B9 := Aside0.mk (B8.out.trans (b9.mono B8.out.size))
   have DE := Aside0.mk (D8.out.trans (b9.mono D8.out.size))
   have ZE := Aside0.mk ((b9.block _ (blk_lt Z8.out)).trans Z8.out)
   have VE := Aside0.mk ((b9.block _ (blk_lt V8.out)).trans V8.out)
   have IE := Aside0.mk (I8.out.below b9)
   clear hb bn b9 B8 D8 Z8 V8 I8
   go_upto_region 8 with (fail)
   generalize w9.alloc (.cells #[.int .i64 0, .int .i64 0, .slice none 0 0, .string ⟨#[]⟩] 24 (0, 0)) = wE at B9 DE ZE VE IE ⊢
   have eZE_0 := (blk_cell ZE.out 0).trans rfl
   have eZE_1 := (blk_cell ZE.out 1).trans rfl
   have eZE_2 := (blk_cell ZE.out 2).trans rfl
   have eZE_3 := (blk_cell ZE.out 3).trans rfl
   have eVE_0 := (blk_cell VE.out 0).trans rfl
   have eVE_1 := (blk_cell VE.out 1).trans rfl
   have eVE_2 := (blk_cell VE.out 2).trans rfl
   have eVE_3 := (blk_cell VE.out 3).trans rfl
   have ZH_0 := Aside0.mk (blk_drew ZE.out)
   have VH_0 := Aside0.mk (blk_drew VE.out)
   have BH_0 := Aside0.mk (below_drew1 B9.out)
   have DH_0 := Aside0.mk DE.out.drew
   have IH_0 := Aside0.mk (IE.out.step (W' := wE.drew) (fun _ _ _ => rfl))
   have z1 : (ri == ri) = true := by simp
   have z2 : (re == re) = true := by simp
   clear ZE VE B9 DE IE
   go_region_held3 (fun w' => w'.cell? ⟨w6.heap.size, 0, none⟩ = some (.int .i64 ra) ∧ w'.cell? ⟨w6.heap.size, 1, none⟩ = some (.int .i64 rb) ∧ w'.cell? ⟨w6.heap.size, 2, none⟩ = some (.slice A6 rm.length c6) ∧ w'.cell? ⟨w6.heap.size, 3, none⟩ = some (.string rd) ∧ w'.cell? ⟨w4.heap.size, 0, none⟩ = some (.int .i64 ra) ∧ w'.cell? ⟨w4.heap.size, 1, none⟩ = some (.int .i64 rb) ∧ w'.cell? ⟨w4.heap.size, 2, none⟩ = some (.slice A4 rm.length c4) ∧ w'.cell? ⟨w4.heap.size, 3, none⟩ = some (.string rd)) (go_keep)
    ((first
     | (go_at_call 16; refine (awk_calls wE.drew).mono ?_; rintro e wh1 ⟨rfl, hbh0⟩; have ZH_1 := Aside0.mk (blk_below ZH_0.out hbh0); have VH_1 := Aside0.mk (blk_below VH_0.out hbh0); have BH_1 := Aside0.mk (below_step BH_0.out hbh0); have DH_1 := Aside0.mk (DH_0.out.trans (hbh0.mono DH_0.out.size)); have IH_1 := Aside0.mk (IH_0.out.below hbh0); clear hbh0; have qh1_0_0 := (blk_cell ZH_1.out 0).trans rfl; have qh1_0_1 := (blk_cell ZH_1.out 1).trans rfl; have qh1_0_2 := (blk_cell ZH_1.out 2).trans rfl; have qh1_0_3 := (blk_cell ZH_1.out 3).trans rfl; have qh1_1_0 := (blk_cell VH_1.out 0).trans rfl; have qh1_1_1 := (blk_cell VH_1.out 1).trans rfl; have qh1_1_2 := (blk_cell VH_1.out 2).trans rfl; have qh1_1_3 := (blk_cell VH_1.out 3).trans rfl)
     | (go_at_call 13; refine (ref_calls ra rb A6 rm.length c6 rd wh1).mono ?_; rintro e wh2 ⟨rfl, hbh1⟩; have ZH_2 := Aside0.mk (blk_below ZH_1.out hbh1); have VH_2 := Aside0.mk (blk_below VH_1.out hbh1); have BH_2 := Aside0.mk (below_step BH_1.out hbh1); have DH_2 := Aside0.mk (DH_1.out.trans (hbh1.mono DH_1.out.size)); have IH_2 := Aside0.mk (IH_1.out.below hbh1); clear hbh1; have qh2_0_0 := (blk_cell ZH_2.out 0).trans rfl; have qh2_0_1 := (blk_cell ZH_2.out 1).trans rfl; have qh2_0_2 := (blk_cell ZH_2.out 2).trans rfl; have qh2_0_3 := (blk_cell ZH_2.out 3).trans rfl; have qh2_1_0 := (blk_cell VH_2.out 0).trans rfl; have qh2_1_1 := (blk_cell VH_2.out 1).trans rfl; have qh2_1_2 := (blk_cell VH_2.out 2).trans rfl; have qh2_1_3 := (blk_cell VH_2.out 3).trans rfl)
     | (go_at_call 19; refine (stowageref07_Same.calls k4 ra rb A6 c6 rm rd ra rb A4 c4 rm rd true wh2 (Kd.C_below C6.out DH_2.out) LC6.out (Kd.C_below CW.out DH_2.out) LC4.out HS.out).mono ?_; rintro e wh3 ⟨rfl, hbh2⟩; have ZH_3 := Aside0.mk (blk_below ZH_2.out hbh2); have VH_3 := Aside0.mk (blk_below VH_2.out hbh2); have BH_3 := Aside0.mk (below_step BH_2.out hbh2); have DH_3 := Aside0.mk (DH_2.out.trans (hbh2.mono DH_2.out.size)); have IH_3 := Aside0.mk (IH_2.out.below hbh2); clear hbh2; have qh3_0_0 := (blk_cell ZH_3.out 0).trans rfl; have qh3_0_1 := (blk_cell ZH_3.out 1).trans rfl; have qh3_0_2 := (blk_cell ZH_3.out 2).trans rfl; have qh3_0_3 := (blk_cell ZH_3.out 3).trans rfl; have qh3_1_0 := (blk_cell VH_3.out 0).trans rfl; have qh3_1_1 := (blk_cell VH_3.out 1).trans rfl; have qh3_1_2 := (blk_cell VH_3.out 2).trans rfl; have qh3_1_3 := (blk_cell VH_3.out 3).trans rfl)
     | (go_at_call 40; refine (waits_idle IH_3.out).mono ?_; rintro e wh4 ⟨rfl, hbh3⟩; have ZH_4 := Aside0.mk (blk_below ZH_3.out hbh3); have VH_4 := Aside0.mk (blk_below VH_3.out hbh3); have BH_4 := Aside0.mk (below_step BH_3.out hbh3); have DH_4 := Aside0.mk (DH_3.out.trans (hbh3.mono DH_3.out.size)); have IH_4 := Aside0.mk (IH_3.out.below hbh3); clear hbh3; have qh4_0_0 := (blk_cell ZH_4.out 0).trans rfl; have qh4_0_1 := (blk_cell ZH_4.out 1).trans rfl; have qh4_0_2 := (blk_cell ZH_4.out 2).trans rfl; have qh4_0_3 := (blk_cell ZH_4.out 3).trans rfl; have qh4_1_0 := (blk_cell VH_4.out 0).trans rfl; have qh4_1_1 := (blk_cell VH_4.out 1).trans rfl; have qh4_1_2 := (blk_cell VH_4.out 2).trans rfl; have qh4_1_3 := (blk_cell VH_4.out 3).trans rfl)))
   go_wp2
   go_ret
   exact ⟨rfl, BH_4.out⟩
  ·have b2 : (Go.bits .and .i64 which 2 == 2) = false := beq_eq_false_iff_ne.mpr a2
   clear a1 a2
   go_wp2_with (fail)
   refine (write_calls (st := free none none [] 0) I1.out (fun k hk => Nat.le_trans B1.out.size hk) nS snap (by decide) ⟨by show totF (snF none none) ≤ _; rw [snF_tot]; have := H1.out; show 0 + 0 ≤ _; omega, by have := H1.out; omega⟩ (fun _ _ => ⟨okC_S (by have := H1.out; show 0 + 0 + snap.size ≤ _; omega), by show (0 + 1) * 64 ≤ _; decide, ⟨by show (0 : Int) ≤ 0; decide, by show (0 : Int) < _; decide⟩, by show (0 : Nat) * 24 ≤ _; decide, ⟨okC_S (by have := H1.out; show 0 + 0 + snap.size ≤ _; omega), trivial⟩⟩)).mono ?_
   rintro e w1a ⟨rfl, hI, hK⟩
   rw [write_freeS none none [] 0] at hI ⊢
   have B1a := Aside0.mk (B1.out.trans (hK.below B1.out.size))
   have I1a : Aside0 (IsD w1a dd (fun k => w.heap.size ≤ k) (free (some snap) none [cS snap] (0 + 1))) := ⟨hI⟩
   clear hI hK I1 B1
   go_wp2_with (fail)
   refine (sync_calls I1a.out (fun k hk => Nat.le_trans B1a.out.size hk)).mono ?_
   rintro e w2 ⟨rfl, hI, hK⟩
   have hsy := sync_up (free (some snap) none [cS snap] (0 + 1)) rfl
   rw [hsy.2]
   rw [hsy.1] at hI
   have B2 := Aside0.mk (B1a.out.trans (hK.below B1a.out.size))
   obtain ⟨n, hn⟩ : ∃ n : Int, n = (0 + 1) := ⟨_, rfl⟩
   have I2x : Aside0 (IsD w2 dd (fun k => w.heap.size ≤ k) (idle (some snap) none n [] (-1) false)) := ⟨by rw [hn]; exact hI⟩
   have HX : Aside0 (osz (some snap) ≤ 140737488351232) := ⟨by have := H1.out; show snap.size ≤ _; omega⟩
   have HY : Aside0 (osz none ≤ 140737488351232) := ⟨by have := H1.out; show 0 ≤ _; omega⟩
   have HN : Aside0 (0 ≤ n ∧ n ≤ (100000 : Int)) := ⟨by rw [hn]; decide⟩
   clear hI hK hsy I1a B1a H1 hn
   obtain ⟨x, hx⟩ : ∃ x, x = (some snap) := ⟨_, rfl⟩
   obtain ⟨y, hy⟩ : ∃ y, y = none := ⟨_, rfl⟩
   have I2y : Aside0 (IsD w2 dd (fun k => w.heap.size ≤ k) (idle x y n [] (-1) false)) := ⟨by rw [hx, hy]; exact I2x.out⟩
   have HXx := HX
   have HYy := HY
   clear HX HY
   have HX : Aside0 (osz x ≤ 140737488351232) := ⟨by rw [hx]; exact HXx.out⟩
   have HY : Aside0 (osz y ≤ 140737488351232) := ⟨by rw [hy]; exact HYy.out⟩
   clear hx hy HXx HYy I2x
   obtain ⟨kL, hkL⟩ := (rload_ev x y HX.out).rounds
   obtain ⟨n', hlk⟩ := load_nofall x y n (-1)
   have hlen := loadR_len x
   obtain ⟨R, hR⟩ : ∃ R, R = loadR x := ⟨_, rfl⟩
   rw [← hR] at hkL hlen
   obtain ⟨⟨ra, rb, rm, rd⟩, ri, re⟩ := R
   obtain ⟨k4, hk4⟩ := (same_ev ra rb rm rd ra rb rm rd hlen).rounds
   rw [sameS_refl] at hk4
   have HLD := Aside0.mk hkL
   have HS := Aside0.mk hk4
   have HLK := Aside0.mk hlk
   have HRR := Aside0.mk hR
   clear hkL hk4 hlk hR hlen
   have I2 := I2y
   clear I2y
   go_wp2_with (fail)
   refine (files_calls I2.out (fine_idle _ _ _ _ _)).mono ?_
   rintro e w3 ⟨v3, rfl, hR3, hb⟩
   obtain ⟨A3, c3, rfl, hl3, hC3⟩ := Kd.R_reads hR3
   have B3 := Aside0.mk (B2.out.trans (hb.mono B2.out.size))
   have I3 := Aside0.mk (I2.out.below hb).bound
   have HC3 := Aside0.mk hC3
   have HL3 := Aside0.mk hl3
   clear hR3 hb hC3 hl3 B2 I2
   go_wp2_with (fail)
   refine (stowageref07_Load.calls kL A3 c3 (filesL (snF x y)) ra rb rm rd ri re _ HC3.out HL3.out HLD.out).mono ?_
   rintro e w4 ⟨v4, rfl, hR4, hb4⟩
   obtain ⟨A4, c4, e4, hl4, hC4⟩ := Kd.R_reads hR4
   subst e4
   have LC4 := Aside0.mk hl4
   have b5 : Below w4.heap.size w4 (w4.alloc (.cells #[.int .i64 ra, .int .i64 rb, .slice A4 rm.length c4, .string rd] 30 (0, 0))) := below_alloc (Below.refl _ _) _
   have V5 := Aside0.mk (heap_alloc_new w4 (.cells #[.int .i64 ra, .int .i64 rb, .slice A4 rm.length c4, .string rd] 30 (0, 0)))
   have b35 := hb4.trans (b5.mono hb4.size)
   have B5 := Aside0.mk (B3.out.trans (b35.mono B3.out.size))
   have R5 := Aside0.mk (Kd.R_bound (Kd.R_below hR4 b5))
   have I5 := Aside0.mk (I3.out.below b35)
   have N4 : Aside0 (w3.heap.size ≤ w4.heap.size ∧ w.heap.size ≤ w3.heap.size) := ⟨hb4.size, B3.out.size⟩
   clear hR4 hl4 hC4 hb4 b5 b35 HC3 HL3 B3 I3
   go_wp2_with (fail)
   generalize w4.alloc (.cells #[.int .i64 ra, .int .i64 rb, .slice A4 rm.length c4, .string rd] 30 (0, 0)) = w5 at V5 B5 R5 I5 ⊢
   have L5 := Aside0.mk (blk_lt V5.out)
   have J5 := Aside0.mk (I5.out.mono (ok' := fun k => (w.heap.size ≤ k ∧ k < w3.heap.size) ∨ w5.heap.size ≤ k) (fun k hk => Or.inl ⟨hk.1, hk.2⟩))
   refine (load_calls J5.out (fun k hk => Or.inr hk) HX.out (by have := HX.out; have := HY.out; omega) HN.out (by decide) ((ra, rb, rm, rd), ri, re) (by rw [HLK.out]; exact HRR.out)).mono ?_
   rintro e w6 ⟨v6, rfl, hR6, hI6, hK6⟩
   rw [HLK.out] at hI6
   have V6 := Aside0.mk ((hK6.block _ L5.out (fun e => e.elim (fun e => by have := N4.out; omega) (fun e => by have := L5.out; omega))).trans V5.out)
   have hrw := Kd.R_step R5.out (fun k hk hlt => hK6.block k hlt (fun e => e.elim (fun e => by have := hk.2.1; omega) (fun e => by omega)))
   have CWx := Aside0.mk (Kd.R_reads' hrw).2.2
   obtain ⟨A6, c6, e6, hl6, hC6⟩ := Kd.R_reads hR6
   subst e6
   have LC6 := Aside0.mk hl6
   have B6 := Aside0.mk (B5.out.trans ((hK6.mono (ok' := fun k => w.heap.size ≤ k) (fun k _ hk => hk.elim (fun h => h.1) (fun h => Nat.le_trans B5.out.size h))).below B5.out.size))
   have I6 := Aside0.mk hI6
   have b7 : Below w6.heap.size w6 (w6.alloc (.cells #[.int .i64 ra, .int .i64 rb, .slice A6 rm.length c6, .string rd] 24 (0, 0))) := below_alloc (Below.refl _ _) _
   have Z7 := Aside0.mk (heap_alloc_new w6 (.cells #[.int .i64 ra, .int .i64 rb, .slice A6 rm.length c6, .string rd] 24 (0, 0)))
   have C6 := Aside0.mk hC6
   have CW := CWx
   have L6 := Aside0.mk (blk_lt V6.out)
   have B7 := Aside0.mk (B6.out.trans (b7.mono B6.out.size))
   have D7 := Aside0.mk b7
   have V7 := Aside0.mk ((b7.block _ L6.out).trans V6.out)
   have I7 := Aside0.mk (I6.out.below b7)
   clear hR6 hI6 hK6 hl6 hC6 hrw b7 CWx V5 R5 I5 J5 B5 V6 B6 I6
   go_wp2_with (fail)
   generalize w6.alloc (.cells #[.int .i64 ra, .int .i64 rb, .slice A6 rm.length c6, .string rd] 24 (0, 0)) = w7 at Z7 B7 D7 V7 I7 ⊢
   refine (read_calls I7.out nN (by decide)).mono ?_
   rintro e w8 ⟨rfl, hb⟩
   rw [read_N]
   have B8 := Aside0.mk (B7.out.trans (hb.mono B7.out.size))
   have D8 := Aside0.mk (D7.out.trans (hb.mono D7.out.size))
   have Z8 := Aside0.mk ((hb.block _ (blk_lt Z7.out)).trans Z7.out)
   have V8 := Aside0.mk ((hb.block _ (blk_lt V7.out)).trans V7.out)
   have I8 := Aside0.mk (I7.out.below hb)
   clear hb B7 D7 Z7 V7 I7
   simp only [Option.isSome_none, Bool.false_eq_true, if_false]
   go_wp2_with (fail)
   refine (nil_Load _).mono ?_
   rintro e w9 ⟨rfl, hb⟩
   have bn : Below w9.heap.size w9 (w9.alloc (.cells #[.int .i64 0, .int .i64 0, .slice none 0 0, .string ⟨#[]⟩] 24 (0, 0))) := below_alloc (Below.refl _ _) _
   have b9 := hb.trans (bn.mono hb.size)
   have B9 := Aside0.mk (B8.out.trans (b9.mono B8.out.size))
   have DE := Aside0.mk (D8.out.trans (b9.mono D8.out.size))
   have ZE := Aside0.mk ((b9.block _ (blk_lt Z8.out)).trans Z8.out)
   have VE := Aside0.mk ((b9.block _ (blk_lt V8.out)).trans V8.out)
   have IE := Aside0.mk (I8.out.below b9)
   clear hb bn b9 B8 D8 Z8 V8 I8
   go_upto_region 8 with (fail)
   generalize w9.alloc (.cells #[.int .i64 0, .int .i64 0, .slice none 0 0, .string ⟨#[]⟩] 24 (0, 0)) = wE at B9 DE ZE VE IE ⊢
   have eZE_0 := (blk_cell ZE.out 0).trans rfl
   have eZE_1 := (blk_cell ZE.out 1).trans rfl
   have eZE_2 := (blk_cell ZE.out 2).trans rfl
   have eZE_3 := (blk_cell ZE.out 3).trans rfl
   have eVE_0 := (blk_cell VE.out 0).trans rfl
   have eVE_1 := (blk_cell VE.out 1).trans rfl
   have eVE_2 := (blk_cell VE.out 2).trans rfl
   have eVE_3 := (blk_cell VE.out 3).trans rfl
   have ZH_0 := Aside0.mk (blk_drew ZE.out)
   have VH_0 := Aside0.mk (blk_drew VE.out)
   have BH_0 := Aside0.mk (below_drew1 B9.out)
   have DH_0 := Aside0.mk DE.out.drew
   have IH_0 := Aside0.mk (IE.out.step (W' := wE.drew) (fun _ _ _ => rfl))
   have z1 : (ri == ri) = true := by simp
   have z2 : (re == re) = true := by simp
   clear ZE VE B9 DE IE
   go_region_held3 (fun w' => w'.cell? ⟨w6.heap.size, 0, none⟩ = some (.int .i64 ra) ∧ w'.cell? ⟨w6.heap.size, 1, none⟩ = some (.int .i64 rb) ∧ w'.cell? ⟨w6.heap.size, 2, none⟩ = some (.slice A6 rm.length c6) ∧ w'.cell? ⟨w6.heap.size, 3, none⟩ = some (.string rd) ∧ w'.cell? ⟨w4.heap.size, 0, none⟩ = some (.int .i64 ra) ∧ w'.cell? ⟨w4.heap.size, 1, none⟩ = some (.int .i64 rb) ∧ w'.cell? ⟨w4.heap.size, 2, none⟩ = some (.slice A4 rm.length c4) ∧ w'.cell? ⟨w4.heap.size, 3, none⟩ = some (.string rd)) (go_keep)
    ((first
     | (go_at_call 16; refine (awk_calls wE.drew).mono ?_; rintro e wh1 ⟨rfl, hbh0⟩; have ZH_1 := Aside0.mk (blk_below ZH_0.out hbh0); have VH_1 := Aside0.mk (blk_below VH_0.out hbh0); have BH_1 := Aside0.mk (below_step BH_0.out hbh0); have DH_1 := Aside0.mk (DH_0.out.trans (hbh0.mono DH_0.out.size)); have IH_1 := Aside0.mk (IH_0.out.below hbh0); clear hbh0; have qh1_0_0 := (blk_cell ZH_1.out 0).trans rfl; have qh1_0_1 := (blk_cell ZH_1.out 1).trans rfl; have qh1_0_2 := (blk_cell ZH_1.out 2).trans rfl; have qh1_0_3 := (blk_cell ZH_1.out 3).trans rfl; have qh1_1_0 := (blk_cell VH_1.out 0).trans rfl; have qh1_1_1 := (blk_cell VH_1.out 1).trans rfl; have qh1_1_2 := (blk_cell VH_1.out 2).trans rfl; have qh1_1_3 := (blk_cell VH_1.out 3).trans rfl)
     | (go_at_call 13; refine (ref_calls ra rb A6 rm.length c6 rd wh1).mono ?_; rintro e wh2 ⟨rfl, hbh1⟩; have ZH_2 := Aside0.mk (blk_below ZH_1.out hbh1); have VH_2 := Aside0.mk (blk_below VH_1.out hbh1); have BH_2 := Aside0.mk (below_step BH_1.out hbh1); have DH_2 := Aside0.mk (DH_1.out.trans (hbh1.mono DH_1.out.size)); have IH_2 := Aside0.mk (IH_1.out.below hbh1); clear hbh1; have qh2_0_0 := (blk_cell ZH_2.out 0).trans rfl; have qh2_0_1 := (blk_cell ZH_2.out 1).trans rfl; have qh2_0_2 := (blk_cell ZH_2.out 2).trans rfl; have qh2_0_3 := (blk_cell ZH_2.out 3).trans rfl; have qh2_1_0 := (blk_cell VH_2.out 0).trans rfl; have qh2_1_1 := (blk_cell VH_2.out 1).trans rfl; have qh2_1_2 := (blk_cell VH_2.out 2).trans rfl; have qh2_1_3 := (blk_cell VH_2.out 3).trans rfl)
     | (go_at_call 19; refine (stowageref07_Same.calls k4 ra rb A6 c6 rm rd ra rb A4 c4 rm rd true wh2 (Kd.C_below C6.out DH_2.out) LC6.out (Kd.C_below CW.out DH_2.out) LC4.out HS.out).mono ?_; rintro e wh3 ⟨rfl, hbh2⟩; have ZH_3 := Aside0.mk (blk_below ZH_2.out hbh2); have VH_3 := Aside0.mk (blk_below VH_2.out hbh2); have BH_3 := Aside0.mk (below_step BH_2.out hbh2); have DH_3 := Aside0.mk (DH_2.out.trans (hbh2.mono DH_2.out.size)); have IH_3 := Aside0.mk (IH_2.out.below hbh2); clear hbh2; have qh3_0_0 := (blk_cell ZH_3.out 0).trans rfl; have qh3_0_1 := (blk_cell ZH_3.out 1).trans rfl; have qh3_0_2 := (blk_cell ZH_3.out 2).trans rfl; have qh3_0_3 := (blk_cell ZH_3.out 3).trans rfl; have qh3_1_0 := (blk_cell VH_3.out 0).trans rfl; have qh3_1_1 := (blk_cell VH_3.out 1).trans rfl; have qh3_1_2 := (blk_cell VH_3.out 2).trans rfl; have qh3_1_3 := (blk_cell VH_3.out 3).trans rfl)
     | (go_at_call 40; refine (waits_idle IH_3.out).mono ?_; rintro e wh4 ⟨rfl, hbh3⟩; have ZH_4 := Aside0.mk (blk_below ZH_3.out hbh3); have VH_4 := Aside0.mk (blk_below VH_3.out hbh3); have BH_4 := Aside0.mk (below_step BH_3.out hbh3); have DH_4 := Aside0.mk (DH_3.out.trans (hbh3.mono DH_3.out.size)); have IH_4 := Aside0.mk (IH_3.out.below hbh3); clear hbh3; have qh4_0_0 := (blk_cell ZH_4.out 0).trans rfl; have qh4_0_1 := (blk_cell ZH_4.out 1).trans rfl; have qh4_0_2 := (blk_cell ZH_4.out 2).trans rfl; have qh4_0_3 := (blk_cell ZH_4.out 3).trans rfl; have qh4_1_0 := (blk_cell VH_4.out 0).trans rfl; have qh4_1_1 := (blk_cell VH_4.out 1).trans rfl; have qh4_1_2 := (blk_cell VH_4.out 2).trans rfl; have qh4_1_3 := (blk_cell VH_4.out 3).trans rfl)))
   go_wp2
   go_ret
   exact ⟨rfl, BH_4.out⟩
 ·have b1 : (Go.bits .and .i64 which 1 == 1) = false := beq_eq_false_iff_ne.mpr a1
  by_cases a2 : Go.bits .and .i64 which 2 = 2
  ·have b2 : (Go.bits .and .i64 which 2 == 2) = true := beq_iff_eq.mpr a2
   clear a1 a2
   go_wp2_with (fail)
   refine (write_calls (st := free none none [] 0) I1.out (fun k hk => Nat.le_trans B1.out.size hk) nN fresh (by decide) ⟨by show totF (snF none none) ≤ _; rw [snF_tot]; have := H1.out; show 0 + 0 ≤ _; omega, by have := H1.out; omega⟩ (fun _ _ => ⟨okC_W (by have := H1.out; show 0 + 0 + fresh.size ≤ _; omega), by show (0 + 1) * 64 ≤ _; decide, ⟨by show (0 : Int) ≤ 0; decide, by show (0 : Int) < _; decide⟩, by show (0 : Nat) * 24 ≤ _; decide, ⟨okC_W (by have := H1.out; show 0 + 0 + fresh.size ≤ _; omega), trivial⟩⟩)).mono ?_
   rintro e w1b ⟨rfl, hI, hK⟩
   rw [write_freeN none none [] 0] at hI ⊢
   have B1b := Aside0.mk (B1.out.trans (hK.below B1.out.size))
   have I1b : Aside0 (IsD w1b dd (fun k => w.heap.size ≤ k) (free none (some fresh) [cW fresh] (0 + 1))) := ⟨hI⟩
   clear hI hK I1 B1
   go_wp2_with (fail)
   refine (sync_calls I1b.out (fun k hk => Nat.le_trans B1b.out.size hk)).mono ?_
   rintro e w2 ⟨rfl, hI, hK⟩
   have hsy := sync_up (free none (some fresh) [cW fresh] (0 + 1)) rfl
   rw [hsy.2]
   rw [hsy.1] at hI
   have B2 := Aside0.mk (B1b.out.trans (hK.below B1b.out.size))
   obtain ⟨n, hn⟩ : ∃ n : Int, n = (0 + 1) := ⟨_, rfl⟩
   have I2x : Aside0 (IsD w2 dd (fun k => w.heap.size ≤ k) (idle none (some fresh) n [] (-1) false)) := ⟨by rw [hn]; exact hI⟩
   have HX : Aside0 (osz none ≤ 140737488351232) := ⟨by have := H1.out; show 0 ≤ _; omega⟩
   have HY : Aside0 (osz (some fresh) ≤ 140737488351232) := ⟨by have := H1.out; show fresh.size ≤ _; omega⟩
   have HN : Aside0 (0 ≤ n ∧ n ≤ (100000 : Int)) := ⟨by rw [hn]; decide⟩
   clear hI hK hsy I1b B1b H1 hn
   obtain ⟨x, hx⟩ : ∃ x, x = none := ⟨_, rfl⟩
   obtain ⟨y, hy⟩ : ∃ y, y = (some fresh) := ⟨_, rfl⟩
   have I2y : Aside0 (IsD w2 dd (fun k => w.heap.size ≤ k) (idle x y n [] (-1) false)) := ⟨by rw [hx, hy]; exact I2x.out⟩
   have HXx := HX
   have HYy := HY
   clear HX HY
   have HX : Aside0 (osz x ≤ 140737488351232) := ⟨by rw [hx]; exact HXx.out⟩
   have HY : Aside0 (osz y ≤ 140737488351232) := ⟨by rw [hy]; exact HYy.out⟩
   clear hx hy HXx HYy I2x
   obtain ⟨kL, hkL⟩ := (rload_ev x y HX.out).rounds
   obtain ⟨n', hlk⟩ := load_nofall x y n (-1)
   have hlen := loadR_len x
   obtain ⟨R, hR⟩ : ∃ R, R = loadR x := ⟨_, rfl⟩
   rw [← hR] at hkL hlen
   obtain ⟨⟨ra, rb, rm, rd⟩, ri, re⟩ := R
   obtain ⟨k4, hk4⟩ := (same_ev ra rb rm rd ra rb rm rd hlen).rounds
   rw [sameS_refl] at hk4
   have HLD := Aside0.mk hkL
   have HS := Aside0.mk hk4
   have HLK := Aside0.mk hlk
   have HRR := Aside0.mk hR
   clear hkL hk4 hlk hR hlen
   have I2 := I2y
   clear I2y
   go_wp2_with (fail)
   refine (files_calls I2.out (fine_idle _ _ _ _ _)).mono ?_
   rintro e w3 ⟨v3, rfl, hR3, hb⟩
   obtain ⟨A3, c3, rfl, hl3, hC3⟩ := Kd.R_reads hR3
   have B3 := Aside0.mk (B2.out.trans (hb.mono B2.out.size))
   have I3 := Aside0.mk (I2.out.below hb).bound
   have HC3 := Aside0.mk hC3
   have HL3 := Aside0.mk hl3
   clear hR3 hb hC3 hl3 B2 I2
   go_wp2_with (fail)
   refine (stowageref07_Load.calls kL A3 c3 (filesL (snF x y)) ra rb rm rd ri re _ HC3.out HL3.out HLD.out).mono ?_
   rintro e w4 ⟨v4, rfl, hR4, hb4⟩
   obtain ⟨A4, c4, e4, hl4, hC4⟩ := Kd.R_reads hR4
   subst e4
   have LC4 := Aside0.mk hl4
   have b5 : Below w4.heap.size w4 (w4.alloc (.cells #[.int .i64 ra, .int .i64 rb, .slice A4 rm.length c4, .string rd] 30 (0, 0))) := below_alloc (Below.refl _ _) _
   have V5 := Aside0.mk (heap_alloc_new w4 (.cells #[.int .i64 ra, .int .i64 rb, .slice A4 rm.length c4, .string rd] 30 (0, 0)))
   have b35 := hb4.trans (b5.mono hb4.size)
   have B5 := Aside0.mk (B3.out.trans (b35.mono B3.out.size))
   have R5 := Aside0.mk (Kd.R_bound (Kd.R_below hR4 b5))
   have I5 := Aside0.mk (I3.out.below b35)
   have N4 : Aside0 (w3.heap.size ≤ w4.heap.size ∧ w.heap.size ≤ w3.heap.size) := ⟨hb4.size, B3.out.size⟩
   clear hR4 hl4 hC4 hb4 b5 b35 HC3 HL3 B3 I3
   go_wp2_with (fail)
   generalize w4.alloc (.cells #[.int .i64 ra, .int .i64 rb, .slice A4 rm.length c4, .string rd] 30 (0, 0)) = w5 at V5 B5 R5 I5 ⊢
   have L5 := Aside0.mk (blk_lt V5.out)
   have J5 := Aside0.mk (I5.out.mono (ok' := fun k => (w.heap.size ≤ k ∧ k < w3.heap.size) ∨ w5.heap.size ≤ k) (fun k hk => Or.inl ⟨hk.1, hk.2⟩))
   refine (load_calls J5.out (fun k hk => Or.inr hk) HX.out (by have := HX.out; have := HY.out; omega) HN.out (by decide) ((ra, rb, rm, rd), ri, re) (by rw [HLK.out]; exact HRR.out)).mono ?_
   rintro e w6 ⟨v6, rfl, hR6, hI6, hK6⟩
   rw [HLK.out] at hI6
   have V6 := Aside0.mk ((hK6.block _ L5.out (fun e => e.elim (fun e => by have := N4.out; omega) (fun e => by have := L5.out; omega))).trans V5.out)
   have hrw := Kd.R_step R5.out (fun k hk hlt => hK6.block k hlt (fun e => e.elim (fun e => by have := hk.2.1; omega) (fun e => by omega)))
   have CWx := Aside0.mk (Kd.R_reads' hrw).2.2
   obtain ⟨A6, c6, e6, hl6, hC6⟩ := Kd.R_reads hR6
   subst e6
   have LC6 := Aside0.mk hl6
   have B6 := Aside0.mk (B5.out.trans ((hK6.mono (ok' := fun k => w.heap.size ≤ k) (fun k _ hk => hk.elim (fun h => h.1) (fun h => Nat.le_trans B5.out.size h))).below B5.out.size))
   have I6 := Aside0.mk hI6
   have b7 : Below w6.heap.size w6 (w6.alloc (.cells #[.int .i64 ra, .int .i64 rb, .slice A6 rm.length c6, .string rd] 24 (0, 0))) := below_alloc (Below.refl _ _) _
   have Z7 := Aside0.mk (heap_alloc_new w6 (.cells #[.int .i64 ra, .int .i64 rb, .slice A6 rm.length c6, .string rd] 24 (0, 0)))
   have C6 := Aside0.mk hC6
   have CW := CWx
   have L6 := Aside0.mk (blk_lt V6.out)
   have B7 := Aside0.mk (B6.out.trans (b7.mono B6.out.size))
   have D7 := Aside0.mk b7
   have V7 := Aside0.mk ((b7.block _ L6.out).trans V6.out)
   have I7 := Aside0.mk (I6.out.below b7)
   clear hR6 hI6 hK6 hl6 hC6 hrw b7 CWx V5 R5 I5 J5 B5 V6 B6 I6
   go_wp2_with (fail)
   generalize w6.alloc (.cells #[.int .i64 ra, .int .i64 rb, .slice A6 rm.length c6, .string rd] 24 (0, 0)) = w7 at Z7 B7 D7 V7 I7 ⊢
   refine (read_calls I7.out nN (by decide)).mono ?_
   rintro e w8 ⟨rfl, hb⟩
   rw [read_N]
   have B8 := Aside0.mk (B7.out.trans (hb.mono B7.out.size))
   have D8 := Aside0.mk (D7.out.trans (hb.mono D7.out.size))
   have Z8 := Aside0.mk ((hb.block _ (blk_lt Z7.out)).trans Z7.out)
   have V8 := Aside0.mk ((hb.block _ (blk_lt V7.out)).trans V7.out)
   have I8 := Aside0.mk (I7.out.below hb)
   clear hb B7 D7 Z7 V7 I7
   simp only [Option.isSome_none, Bool.false_eq_true, if_false]
   go_wp2_with (fail)
   refine (nil_Load _).mono ?_
   rintro e w9 ⟨rfl, hb⟩
   have bn : Below w9.heap.size w9 (w9.alloc (.cells #[.int .i64 0, .int .i64 0, .slice none 0 0, .string ⟨#[]⟩] 24 (0, 0))) := below_alloc (Below.refl _ _) _
   have b9 := hb.trans (bn.mono hb.size)
   have B9 := Aside0.mk (B8.out.trans (b9.mono B8.out.size))
   have DE := Aside0.mk (D8.out.trans (b9.mono D8.out.size))
   have ZE := Aside0.mk ((b9.block _ (blk_lt Z8.out)).trans Z8.out)
   have VE := Aside0.mk ((b9.block _ (blk_lt V8.out)).trans V8.out)
   have IE := Aside0.mk (I8.out.below b9)
   clear hb bn b9 B8 D8 Z8 V8 I8
   go_upto_region 8 with (fail)
   generalize w9.alloc (.cells #[.int .i64 0, .int .i64 0, .slice none 0 0, .string ⟨#[]⟩] 24 (0, 0)) = wE at B9 DE ZE VE IE ⊢
   have eZE_0 := (blk_cell ZE.out 0).trans rfl
   have eZE_1 := (blk_cell ZE.out 1).trans rfl
   have eZE_2 := (blk_cell ZE.out 2).trans rfl
   have eZE_3 := (blk_cell ZE.out 3).trans rfl
   have eVE_0 := (blk_cell VE.out 0).trans rfl
   have eVE_1 := (blk_cell VE.out 1).trans rfl
   have eVE_2 := (blk_cell VE.out 2).trans rfl
   have eVE_3 := (blk_cell VE.out 3).trans rfl
   have ZH_0 := Aside0.mk (blk_drew ZE.out)
   have VH_0 := Aside0.mk (blk_drew VE.out)
   have BH_0 := Aside0.mk (below_drew1 B9.out)
   have DH_0 := Aside0.mk DE.out.drew
   have IH_0 := Aside0.mk (IE.out.step (W' := wE.drew) (fun _ _ _ => rfl))
   have z1 : (ri == ri) = true := by simp
   have z2 : (re == re) = true := by simp
   clear ZE VE B9 DE IE
   go_region_held3 (fun w' => w'.cell? ⟨w6.heap.size, 0, none⟩ = some (.int .i64 ra) ∧ w'.cell? ⟨w6.heap.size, 1, none⟩ = some (.int .i64 rb) ∧ w'.cell? ⟨w6.heap.size, 2, none⟩ = some (.slice A6 rm.length c6) ∧ w'.cell? ⟨w6.heap.size, 3, none⟩ = some (.string rd) ∧ w'.cell? ⟨w4.heap.size, 0, none⟩ = some (.int .i64 ra) ∧ w'.cell? ⟨w4.heap.size, 1, none⟩ = some (.int .i64 rb) ∧ w'.cell? ⟨w4.heap.size, 2, none⟩ = some (.slice A4 rm.length c4) ∧ w'.cell? ⟨w4.heap.size, 3, none⟩ = some (.string rd)) (go_keep)
    ((first
     | (go_at_call 16; refine (awk_calls wE.drew).mono ?_; rintro e wh1 ⟨rfl, hbh0⟩; have ZH_1 := Aside0.mk (blk_below ZH_0.out hbh0); have VH_1 := Aside0.mk (blk_below VH_0.out hbh0); have BH_1 := Aside0.mk (below_step BH_0.out hbh0); have DH_1 := Aside0.mk (DH_0.out.trans (hbh0.mono DH_0.out.size)); have IH_1 := Aside0.mk (IH_0.out.below hbh0); clear hbh0; have qh1_0_0 := (blk_cell ZH_1.out 0).trans rfl; have qh1_0_1 := (blk_cell ZH_1.out 1).trans rfl; have qh1_0_2 := (blk_cell ZH_1.out 2).trans rfl; have qh1_0_3 := (blk_cell ZH_1.out 3).trans rfl; have qh1_1_0 := (blk_cell VH_1.out 0).trans rfl; have qh1_1_1 := (blk_cell VH_1.out 1).trans rfl; have qh1_1_2 := (blk_cell VH_1.out 2).trans rfl; have qh1_1_3 := (blk_cell VH_1.out 3).trans rfl)
     | (go_at_call 13; refine (ref_calls ra rb A6 rm.length c6 rd wh1).mono ?_; rintro e wh2 ⟨rfl, hbh1⟩; have ZH_2 := Aside0.mk (blk_below ZH_1.out hbh1); have VH_2 := Aside0.mk (blk_below VH_1.out hbh1); have BH_2 := Aside0.mk (below_step BH_1.out hbh1); have DH_2 := Aside0.mk (DH_1.out.trans (hbh1.mono DH_1.out.size)); have IH_2 := Aside0.mk (IH_1.out.below hbh1); clear hbh1; have qh2_0_0 := (blk_cell ZH_2.out 0).trans rfl; have qh2_0_1 := (blk_cell ZH_2.out 1).trans rfl; have qh2_0_2 := (blk_cell ZH_2.out 2).trans rfl; have qh2_0_3 := (blk_cell ZH_2.out 3).trans rfl; have qh2_1_0 := (blk_cell VH_2.out 0).trans rfl; have qh2_1_1 := (blk_cell VH_2.out 1).trans rfl; have qh2_1_2 := (blk_cell VH_2.out 2).trans rfl; have qh2_1_3 := (blk_cell VH_2.out 3).trans rfl)
     | (go_at_call 19; refine (stowageref07_Same.calls k4 ra rb A6 c6 rm rd ra rb A4 c4 rm rd true wh2 (Kd.C_below C6.out DH_2.out) LC6.out (Kd.C_below CW.out DH_2.out) LC4.out HS.out).mono ?_; rintro e wh3 ⟨rfl, hbh2⟩; have ZH_3 := Aside0.mk (blk_below ZH_2.out hbh2); have VH_3 := Aside0.mk (blk_below VH_2.out hbh2); have BH_3 := Aside0.mk (below_step BH_2.out hbh2); have DH_3 := Aside0.mk (DH_2.out.trans (hbh2.mono DH_2.out.size)); have IH_3 := Aside0.mk (IH_2.out.below hbh2); clear hbh2; have qh3_0_0 := (blk_cell ZH_3.out 0).trans rfl; have qh3_0_1 := (blk_cell ZH_3.out 1).trans rfl; have qh3_0_2 := (blk_cell ZH_3.out 2).trans rfl; have qh3_0_3 := (blk_cell ZH_3.out 3).trans rfl; have qh3_1_0 := (blk_cell VH_3.out 0).trans rfl; have qh3_1_1 := (blk_cell VH_3.out 1).trans rfl; have qh3_1_2 := (blk_cell VH_3.out 2).trans rfl; have qh3_1_3 := (blk_cell VH_3.out 3).trans rfl)
     | (go_at_call 40; refine (waits_idle IH_3.out).mono ?_; rintro e wh4 ⟨rfl, hbh3⟩; have ZH_4 := Aside0.mk (blk_below ZH_3.out hbh3); have VH_4 := Aside0.mk (blk_below VH_3.out hbh3); have BH_4 := Aside0.mk (below_step BH_3.out hbh3); have DH_4 := Aside0.mk (DH_3.out.trans (hbh3.mono DH_3.out.size)); have IH_4 := Aside0.mk (IH_3.out.below hbh3); clear hbh3; have qh4_0_0 := (blk_cell ZH_4.out 0).trans rfl; have qh4_0_1 := (blk_cell ZH_4.out 1).trans rfl; have qh4_0_2 := (blk_cell ZH_4.out 2).trans rfl; have qh4_0_3 := (blk_cell ZH_4.out 3).trans rfl; have qh4_1_0 := (blk_cell VH_4.out 0).trans rfl; have qh4_1_1 := (blk_cell VH_4.out 1).trans rfl; have qh4_1_2 := (blk_cell VH_4.out 2).trans rfl; have qh4_1_3 := (blk_cell VH_4.out 3).trans rfl)))
   go_wp2
   go_ret
   exact ⟨rfl, BH_4.out⟩
  ·have b2 : (Go.bits .and .i64 which 2 == 2) = false := beq_eq_false_iff_ne.mpr a2
   clear a1 a2
   go_wp2_with (fail)
   refine (sync_calls I1.out (fun k hk => Nat.le_trans B1.out.size hk)).mono ?_
   rintro e w2 ⟨rfl, hI, hK⟩
   have hsy := sync_up (free none none [] (0 : Int)) rfl
   rw [hsy.2]
   rw [hsy.1] at hI
   have B2 := Aside0.mk (B1.out.trans (hK.below B1.out.size))
   obtain ⟨n, hn⟩ : ∃ n : Int, n = (0 : Int) := ⟨_, rfl⟩
   have I2x : Aside0 (IsD w2 dd (fun k => w.heap.size ≤ k) (idle none none n [] (-1) false)) := ⟨by rw [hn]; exact hI⟩
   have HX : Aside0 (osz none ≤ 140737488351232) := ⟨by have := H1.out; show 0 ≤ _; omega⟩
   have HY : Aside0 (osz none ≤ 140737488351232) := ⟨by have := H1.out; show 0 ≤ _; omega⟩
   have HN : Aside0 (0 ≤ n ∧ n ≤ (100000 : Int)) := ⟨by rw [hn]; decide⟩
   clear hI hK hsy I1 B1 H1 hn
   obtain ⟨x, hx⟩ : ∃ x, x = none := ⟨_, rfl⟩
   obtain ⟨y, hy⟩ : ∃ y, y = none := ⟨_, rfl⟩
   have I2y : Aside0 (IsD w2 dd (fun k => w.heap.size ≤ k) (idle x y n [] (-1) false)) := ⟨by rw [hx, hy]; exact I2x.out⟩
   have HXx := HX
   have HYy := HY
   clear HX HY
   have HX : Aside0 (osz x ≤ 140737488351232) := ⟨by rw [hx]; exact HXx.out⟩
   have HY : Aside0 (osz y ≤ 140737488351232) := ⟨by rw [hy]; exact HYy.out⟩
   clear hx hy HXx HYy I2x
   obtain ⟨kL, hkL⟩ := (rload_ev x y HX.out).rounds
   obtain ⟨n', hlk⟩ := load_nofall x y n (-1)
   have hlen := loadR_len x
   obtain ⟨R, hR⟩ : ∃ R, R = loadR x := ⟨_, rfl⟩
   rw [← hR] at hkL hlen
   obtain ⟨⟨ra, rb, rm, rd⟩, ri, re⟩ := R
   obtain ⟨k4, hk4⟩ := (same_ev ra rb rm rd ra rb rm rd hlen).rounds
   rw [sameS_refl] at hk4
   have HLD := Aside0.mk hkL
   have HS := Aside0.mk hk4
   have HLK := Aside0.mk hlk
   have HRR := Aside0.mk hR
   clear hkL hk4 hlk hR hlen
   have I2 := I2y
   clear I2y
   go_wp2_with (fail)
   refine (files_calls I2.out (fine_idle _ _ _ _ _)).mono ?_
   rintro e w3 ⟨v3, rfl, hR3, hb⟩
   obtain ⟨A3, c3, rfl, hl3, hC3⟩ := Kd.R_reads hR3
   have B3 := Aside0.mk (B2.out.trans (hb.mono B2.out.size))
   have I3 := Aside0.mk (I2.out.below hb).bound
   have HC3 := Aside0.mk hC3
   have HL3 := Aside0.mk hl3
   clear hR3 hb hC3 hl3 B2 I2
   go_wp2_with (fail)
   refine (stowageref07_Load.calls kL A3 c3 (filesL (snF x y)) ra rb rm rd ri re _ HC3.out HL3.out HLD.out).mono ?_
   rintro e w4 ⟨v4, rfl, hR4, hb4⟩
   obtain ⟨A4, c4, e4, hl4, hC4⟩ := Kd.R_reads hR4
   subst e4
   have LC4 := Aside0.mk hl4
   have b5 : Below w4.heap.size w4 (w4.alloc (.cells #[.int .i64 ra, .int .i64 rb, .slice A4 rm.length c4, .string rd] 30 (0, 0))) := below_alloc (Below.refl _ _) _
   have V5 := Aside0.mk (heap_alloc_new w4 (.cells #[.int .i64 ra, .int .i64 rb, .slice A4 rm.length c4, .string rd] 30 (0, 0)))
   have b35 := hb4.trans (b5.mono hb4.size)
   have B5 := Aside0.mk (B3.out.trans (b35.mono B3.out.size))
   have R5 := Aside0.mk (Kd.R_bound (Kd.R_below hR4 b5))
   have I5 := Aside0.mk (I3.out.below b35)
   have N4 : Aside0 (w3.heap.size ≤ w4.heap.size ∧ w.heap.size ≤ w3.heap.size) := ⟨hb4.size, B3.out.size⟩
   clear hR4 hl4 hC4 hb4 b5 b35 HC3 HL3 B3 I3
   go_wp2_with (fail)
   generalize w4.alloc (.cells #[.int .i64 ra, .int .i64 rb, .slice A4 rm.length c4, .string rd] 30 (0, 0)) = w5 at V5 B5 R5 I5 ⊢
   have L5 := Aside0.mk (blk_lt V5.out)
   have J5 := Aside0.mk (I5.out.mono (ok' := fun k => (w.heap.size ≤ k ∧ k < w3.heap.size) ∨ w5.heap.size ≤ k) (fun k hk => Or.inl ⟨hk.1, hk.2⟩))
   refine (load_calls J5.out (fun k hk => Or.inr hk) HX.out (by have := HX.out; have := HY.out; omega) HN.out (by decide) ((ra, rb, rm, rd), ri, re) (by rw [HLK.out]; exact HRR.out)).mono ?_
   rintro e w6 ⟨v6, rfl, hR6, hI6, hK6⟩
   rw [HLK.out] at hI6
   have V6 := Aside0.mk ((hK6.block _ L5.out (fun e => e.elim (fun e => by have := N4.out; omega) (fun e => by have := L5.out; omega))).trans V5.out)
   have hrw := Kd.R_step R5.out (fun k hk hlt => hK6.block k hlt (fun e => e.elim (fun e => by have := hk.2.1; omega) (fun e => by omega)))
   have CWx := Aside0.mk (Kd.R_reads' hrw).2.2
   obtain ⟨A6, c6, e6, hl6, hC6⟩ := Kd.R_reads hR6
   subst e6
   have LC6 := Aside0.mk hl6
   have B6 := Aside0.mk (B5.out.trans ((hK6.mono (ok' := fun k => w.heap.size ≤ k) (fun k _ hk => hk.elim (fun h => h.1) (fun h => Nat.le_trans B5.out.size h))).below B5.out.size))
   have I6 := Aside0.mk hI6
   have b7 : Below w6.heap.size w6 (w6.alloc (.cells #[.int .i64 ra, .int .i64 rb, .slice A6 rm.length c6, .string rd] 24 (0, 0))) := below_alloc (Below.refl _ _) _
   have Z7 := Aside0.mk (heap_alloc_new w6 (.cells #[.int .i64 ra, .int .i64 rb, .slice A6 rm.length c6, .string rd] 24 (0, 0)))
   have C6 := Aside0.mk hC6
   have CW := CWx
   have L6 := Aside0.mk (blk_lt V6.out)
   have B7 := Aside0.mk (B6.out.trans (b7.mono B6.out.size))
   have D7 := Aside0.mk b7
   have V7 := Aside0.mk ((b7.block _ L6.out).trans V6.out)
   have I7 := Aside0.mk (I6.out.below b7)
   clear hR6 hI6 hK6 hl6 hC6 hrw b7 CWx V5 R5 I5 J5 B5 V6 B6 I6
   go_wp2_with (fail)
   generalize w6.alloc (.cells #[.int .i64 ra, .int .i64 rb, .slice A6 rm.length c6, .string rd] 24 (0, 0)) = w7 at Z7 B7 D7 V7 I7 ⊢
   refine (read_calls I7.out nN (by decide)).mono ?_
   rintro e w8 ⟨rfl, hb⟩
   rw [read_N]
   have B8 := Aside0.mk (B7.out.trans (hb.mono B7.out.size))
   have D8 := Aside0.mk (D7.out.trans (hb.mono D7.out.size))
   have Z8 := Aside0.mk ((hb.block _ (blk_lt Z7.out)).trans Z7.out)
   have V8 := Aside0.mk ((hb.block _ (blk_lt V7.out)).trans V7.out)
   have I8 := Aside0.mk (I7.out.below hb)
   clear hb B7 D7 Z7 V7 I7
   simp only [Option.isSome_none, Bool.false_eq_true, if_false]
   go_wp2_with (fail)
   refine (nil_Load _).mono ?_
   rintro e w9 ⟨rfl, hb⟩
   have bn : Below w9.heap.size w9 (w9.alloc (.cells #[.int .i64 0, .int .i64 0, .slice none 0 0, .string ⟨#[]⟩] 24 (0, 0))) := below_alloc (Below.refl _ _) _
   have b9 := hb.trans (bn.mono hb.size)
   have B9 := Aside0.mk (B8.out.trans (b9.mono B8.out.size))
   have DE := Aside0.mk (D8.out.trans (b9.mono D8.out.size))
   have ZE := Aside0.mk ((b9.block _ (blk_lt Z8.out)).trans Z8.out)
   have VE := Aside0.mk ((b9.block _ (blk_lt V8.out)).trans V8.out)
   have IE := Aside0.mk (I8.out.below b9)
   clear hb bn b9 B8 D8 Z8 V8 I8
   go_upto_region 8 with (fail)
   generalize w9.alloc (.cells #[.int .i64 0, .int .i64 0, .slice none 0 0, .string ⟨#[]⟩] 24 (0, 0)) = wE at B9 DE ZE VE IE ⊢
   have eZE_0 := (blk_cell ZE.out 0).trans rfl
   have eZE_1 := (blk_cell ZE.out 1).trans rfl
   have eZE_2 := (blk_cell ZE.out 2).trans rfl
   have eZE_3 := (blk_cell ZE.out 3).trans rfl
   have eVE_0 := (blk_cell VE.out 0).trans rfl
   have eVE_1 := (blk_cell VE.out 1).trans rfl
   have eVE_2 := (blk_cell VE.out 2).trans rfl
   have eVE_3 := (blk_cell VE.out 3).trans rfl
   have ZH_0 := Aside0.mk (blk_drew ZE.out)
   have VH_0 := Aside0.mk (blk_drew VE.out)
   have BH_0 := Aside0.mk (below_drew1 B9.out)
   have DH_0 := Aside0.mk DE.out.drew
   have IH_0 := Aside0.mk (IE.out.step (W' := wE.drew) (fun _ _ _ => rfl))
   have z1 : (ri == ri) = true := by simp
   have z2 : (re == re) = true := by simp
   clear ZE VE B9 DE IE
   go_region_held3 (fun w' => w'.cell? ⟨w6.heap.size, 0, none⟩ = some (.int .i64 ra) ∧ w'.cell? ⟨w6.heap.size, 1, none⟩ = some (.int .i64 rb) ∧ w'.cell? ⟨w6.heap.size, 2, none⟩ = some (.slice A6 rm.length c6) ∧ w'.cell? ⟨w6.heap.size, 3, none⟩ = some (.string rd) ∧ w'.cell? ⟨w4.heap.size, 0, none⟩ = some (.int .i64 ra) ∧ w'.cell? ⟨w4.heap.size, 1, none⟩ = some (.int .i64 rb) ∧ w'.cell? ⟨w4.heap.size, 2, none⟩ = some (.slice A4 rm.length c4) ∧ w'.cell? ⟨w4.heap.size, 3, none⟩ = some (.string rd)) (go_keep)
    ((first
     | (go_at_call 16; refine (awk_calls wE.drew).mono ?_; rintro e wh1 ⟨rfl, hbh0⟩; have ZH_1 := Aside0.mk (blk_below ZH_0.out hbh0); have VH_1 := Aside0.mk (blk_below VH_0.out hbh0); have BH_1 := Aside0.mk (below_step BH_0.out hbh0); have DH_1 := Aside0.mk (DH_0.out.trans (hbh0.mono DH_0.out.size)); have IH_1 := Aside0.mk (IH_0.out.below hbh0); clear hbh0; have qh1_0_0 := (blk_cell ZH_1.out 0).trans rfl; have qh1_0_1 := (blk_cell ZH_1.out 1).trans rfl; have qh1_0_2 := (blk_cell ZH_1.out 2).trans rfl; have qh1_0_3 := (blk_cell ZH_1.out 3).trans rfl; have qh1_1_0 := (blk_cell VH_1.out 0).trans rfl; have qh1_1_1 := (blk_cell VH_1.out 1).trans rfl; have qh1_1_2 := (blk_cell VH_1.out 2).trans rfl; have qh1_1_3 := (blk_cell VH_1.out 3).trans rfl)
     | (go_at_call 13; refine (ref_calls ra rb A6 rm.length c6 rd wh1).mono ?_; rintro e wh2 ⟨rfl, hbh1⟩; have ZH_2 := Aside0.mk (blk_below ZH_1.out hbh1); have VH_2 := Aside0.mk (blk_below VH_1.out hbh1); have BH_2 := Aside0.mk (below_step BH_1.out hbh1); have DH_2 := Aside0.mk (DH_1.out.trans (hbh1.mono DH_1.out.size)); have IH_2 := Aside0.mk (IH_1.out.below hbh1); clear hbh1; have qh2_0_0 := (blk_cell ZH_2.out 0).trans rfl; have qh2_0_1 := (blk_cell ZH_2.out 1).trans rfl; have qh2_0_2 := (blk_cell ZH_2.out 2).trans rfl; have qh2_0_3 := (blk_cell ZH_2.out 3).trans rfl; have qh2_1_0 := (blk_cell VH_2.out 0).trans rfl; have qh2_1_1 := (blk_cell VH_2.out 1).trans rfl; have qh2_1_2 := (blk_cell VH_2.out 2).trans rfl; have qh2_1_3 := (blk_cell VH_2.out 3).trans rfl)
     | (go_at_call 19; refine (stowageref07_Same.calls k4 ra rb A6 c6 rm rd ra rb A4 c4 rm rd true wh2 (Kd.C_below C6.out DH_2.out) LC6.out (Kd.C_below CW.out DH_2.out) LC4.out HS.out).mono ?_; rintro e wh3 ⟨rfl, hbh2⟩; have ZH_3 := Aside0.mk (blk_below ZH_2.out hbh2); have VH_3 := Aside0.mk (blk_below VH_2.out hbh2); have BH_3 := Aside0.mk (below_step BH_2.out hbh2); have DH_3 := Aside0.mk (DH_2.out.trans (hbh2.mono DH_2.out.size)); have IH_3 := Aside0.mk (IH_2.out.below hbh2); clear hbh2; have qh3_0_0 := (blk_cell ZH_3.out 0).trans rfl; have qh3_0_1 := (blk_cell ZH_3.out 1).trans rfl; have qh3_0_2 := (blk_cell ZH_3.out 2).trans rfl; have qh3_0_3 := (blk_cell ZH_3.out 3).trans rfl; have qh3_1_0 := (blk_cell VH_3.out 0).trans rfl; have qh3_1_1 := (blk_cell VH_3.out 1).trans rfl; have qh3_1_2 := (blk_cell VH_3.out 2).trans rfl; have qh3_1_3 := (blk_cell VH_3.out 3).trans rfl)
     | (go_at_call 40; refine (waits_idle IH_3.out).mono ?_; rintro e wh4 ⟨rfl, hbh3⟩; have ZH_4 := Aside0.mk (blk_below ZH_3.out hbh3); have VH_4 := Aside0.mk (blk_below VH_3.out hbh3); have BH_4 := Aside0.mk (below_step BH_3.out hbh3); have DH_4 := Aside0.mk (DH_3.out.trans (hbh3.mono DH_3.out.size)); have IH_4 := Aside0.mk (IH_3.out.below hbh3); clear hbh3; have qh4_0_0 := (blk_cell ZH_4.out 0).trans rfl; have qh4_0_1 := (blk_cell ZH_4.out 1).trans rfl; have qh4_0_2 := (blk_cell ZH_4.out 2).trans rfl; have qh4_0_3 := (blk_cell ZH_4.out 3).trans rfl; have qh4_1_0 := (blk_cell VH_4.out 0).trans rfl; have qh4_1_1 := (blk_cell VH_4.out 1).trans rfl; have qh4_1_2 := (blk_cell VH_4.out 2).trans rfl; have qh4_1_3 := (blk_cell VH_4.out 3).trans rfl)))
   go_wp2
   go_ret
   exact ⟨rfl, BH_4.out⟩

theorem w_ShotLoads (W : World) (a0 : ByteArray) (g0 : a0.size ≤ 140737488351232) (a1 : ByteArray) (g1 : a1.size ≤ 140737488351232) (a2 : Int) (g2 : (Lit.int .i64 a2).wf = true) :
  Calls Try.prog 10 #[.string a0, .string a1, .int .i64 a2] W fun e w' => e = .returned (.bool true) ∧ Below W.heap.size W w' := walkShotLoads W a0 a1 g0 g1 a2
end Go.Proofs.Ythjfofgcikfepaa.Q
