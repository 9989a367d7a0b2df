/- ExtentKeeps answers true at every input. -/
import Derived.Outline
import Derived.Deep.DeepCutAuto
import Derived.Test.YtdeakccaecphlaaGreatDoorX7
namespace Go.Proofs.YtdeakccaecphlaaGreatDoor.Q
open Go.Maps Go.WideShapes Go.WideMaps Go.RowKit Go.Proofs.YtdeakccaecphlaaGreatDoorW.PrintWords Go.Proofs.YtdeakccaecphlaaGreatDoorW.PrintLast Go.Proofs.YtdeakccaecphlaaGreatDoorW.PrintMore
set_option linter.unusedVariables false
set_option linter.unusedSimpArgs false
set_option maxHeartbeats 10000000
set_option maxRecDepth 100000
theorem w_ExtentKeeps (W : World) (hG : InG W) (A0 : Option Addr) (c0 : Nat) (a0 : List ByteArray) (l0 : a0.length ≤ c0) (C0 : Kd.C Kd.string W A0 a0.length a0) (g0 : a0.length * 16 ≤ 140737488351232 ∧ ∀ y0 ∈ a0, y0.size ≤ 140737488351232)
  (A1 : Option Addr) (c1 : Nat) (a1 : List ByteArray) (l1 : a1.length ≤ c1) (C1 : Kd.C Kd.string W A1 a1.length a1) (g1 : a1.length * 16 ≤ 140737488351232 ∧ ∀ y0 ∈ a1, y0.size ≤ 140737488351232) :
  Calls Tryz.prog 4 #[.slice A0 a0.length c0, .slice A1 a1.length c1] W fun e w' => e = .returned (.bool true) ∧ Below W.heap.size W w' := by
 have G := Aside0.mk hG
 have CA := Aside0.mk C0
 have CB := Aside0.mk C1
 have G0 := Aside0.mk g0
 have G1 := Aside0.mk g1
 have L1 := Aside0.mk l1
 clear hG C0 C1 g0 g1 l0 l1
 obtain ⟨p, hp⟩ : ∃ p, p = a0.length := ⟨_, rfl⟩
 have HP := Aside0.mk hp
 rw [← hp] at CA ⊢
 clear hp
 go_enter Tryz.func4, Tryz.ntmps4
 go_wp2_with (fail)
 refine (new_calls W).mono ?_
 rintro e w1 ⟨d, rfl, hI, hb⟩
 rw [newK_idl] at hI
 have B1 := Aside0.mk hb
 have I1 := Aside0.mk hI
 clear hb hI
 go_wp2_with (fail)
 refine (Open_calls (i := 0) (G.out.below B1.out) (by have := G.out.pos; omega) (fun k hk => Nat.le_trans B1.out.size hk) I1.out idl_new (fun p hp => by cases hp) (by decide)).mono ?_
 rintro e w2 ⟨x, rfl, hx, hS, hK⟩
 rw [show openX [] = [] by unfold openX; rw [gone_nil.1]; rfl, gone_nil.1] at hS
 rw [gone_nil.2]
 have S2 := Aside0.mk hS
 have B2 : Aside0 (Below W.heap.size W w2) := ⟨B1.out.trans (hK.below B1.out.size)⟩
 clear hS hK I1 B1
 go_wp2_with (fail)
 refine (awake_calls w2 S2.out.env.tab).mono ?_
 rintro e w3 ⟨rfl, hb⟩
 have S3 := Aside0.mk (S2.out.below hb)
 have B3 := Aside0.mk (below_step B2.out hb)
 clear hb S2 B2
 go_upto_block 0 with (fail)
 go_cut [8] (fun u8 wx => Aside0 (∃ (l : Fs) (n : Int), Sto wx x d (fun k => W.heap.size ≤ k ∧ k ≠ x) 24 l n ∧ hasF l nEN = false) ∧ Aside0 (Below W.heap.size W wx))
 case first =>
  go_wp2_with (fail)
  go_loopg [8] (p + 1) (fun kq v8 w' => ∃ (j : Nat), v8 = .int .i64 (j : Int) ∧ Aside0 (j + kq = p + 1 ∧ j ≤ p ∧ j ≤ 12) ∧ Aside0 (∃ (l : Fs) (n : Int), Sto w' x d (fun k => W.heap.size ≤ k ∧ k ≠ x) (2 * j) l n ∧ hasF l nEN = false) ∧ Aside0 (Below W.heap.size W w'))
  case atStart => exact ⟨0, rfl, ⟨by omega, by omega, by omega⟩, ⟨[], _, S3.out, by decide⟩, B3⟩
  case round =>
   clear S3 B3
   obtain ⟨j, rfl, HJ, HS, HB⟩ := hrel
   cases gk with
   | zero => have := HJ.out; omega
   | succ k1 =>
    by_cases hj : j < p
    ·by_cases h12 : j < 12
     ·have hlt : ((j : Int) < (p : Int)) = True := eq_true (by omega)
      have hlt2 : ((j : Int) < 12) = True := eq_true (by omega)
      have hd : decide ((j : Int) < (p : Int)) = true := decide_eq_true (by omega)
      have hd2 : decide ((j : Int) < 12) = true := decide_eq_true (by omega)
      obtain ⟨ad, e, h0⟩ := (Kd.reads_of_C (enc := Value.string) (d := ByteArray.empty) (Kd.C_below CA.out HB.out)).at_ (j : Int) (by omega) (by omega)
      rw [Int.toNat_natCast] at h0
      generalize rdOf ByteArray.empty a0 (j : Int) = s at h0
      subst e
      go_wp2_with (fail)
      refine (stowagelaw06_few.calls s (fewS s) wr (few_eq s)).mono ?_
      rintro e w5 ⟨rfl, hd5⟩
      have b5 : Below wr.heap.size wr w5 := by obtain ⟨nd, rfl⟩ := hd5; exact pw_below_drewN (Below.refl _ _) nd
      obtain ⟨l, n, hS, hno⟩ := HS.out
      have S5 := Aside0.mk (hS.below b5)
      have B5 := Aside0.mk (below_step HB.out b5)
      have NO := Aside0.mk hno
      clear b5 hS hno h0 HS HB
      go_wp2_with (fail)
      refine (Put_calls S5.out (fewS s) NO.out (by have := HJ.out; omega)).mono ?_
      rintro e w6 ⟨rfl, ⟨n', hS⟩, hK⟩
      have S6 : Aside0 (∃ (l : Fs) (n : Int), Sto w6 x d (fun k => W.heap.size ≤ k ∧ k ≠ x) (2 * (j + 1)) l n ∧ hasF l nEN = false) := ⟨_, n', hS, putX_new NO.out _⟩
      have B6 : Aside0 (Below W.heap.size W w6) := ⟨B5.out.trans ((hK.mono (fun k _ h => h.1)).below B5.out.size)⟩
      clear hS hK S5 B5
      go_wp2_with (fail)
      go_roundg k1
      case measure => have := HJ.out; omega
      case rel => exact ⟨j + 1, rfl, ⟨by have := HJ.out; omega, by omega, by omega⟩, S6, B6⟩
     ·have hlt : ((j : Int) < (p : Int)) = True := eq_true (by omega)
      have hlt2 : ((j : Int) < 12) = False := eq_false (by omega)
      have hd : decide ((j : Int) < (p : Int)) = true := decide_eq_true (by omega)
      have hd2 : decide ((j : Int) < 12) = false := decide_eq_false (by omega)
      have HS' : Aside0 (∃ (l : Fs) (n : Int), Sto wr x d (fun k => W.heap.size ≤ k ∧ k ≠ x) 24 l n ∧ hasF l nEN = false) := ⟨by obtain ⟨l, n, hS, hno⟩ := HS.out; exact ⟨l, n, hS.mono (by have := HJ.out; omega), hno⟩⟩
      go_wp2_with (fail)
      go_meet
      case rel => exact ⟨HS', HB⟩
    ·have hlt : ((j : Int) < (p : Int)) = False := eq_false (by omega)
     have hd : decide ((j : Int) < (p : Int)) = false := decide_eq_false (by omega)
     have HS' : Aside0 (∃ (l : Fs) (n : Int), Sto wr x d (fun k => W.heap.size ≤ k ∧ k ≠ x) 24 l n ∧ hasF l nEN = false) := ⟨by obtain ⟨l, n, hS, hno⟩ := HS.out; exact ⟨l, n, hS.mono (by have := HJ.out; omega), hno⟩⟩
     go_wp2_with (fail)
     go_meet
     case rel => exact ⟨HS', HB⟩
 case rest =>
  clear S3 B3
  obtain ⟨⟨l, n, hS, hno⟩, BC⟩ := hcut
  have SC := Aside0.mk hS
  have HLEN : Aside0 (l.length ≤ 24) := ⟨hS.good.len⟩
  have RIS : Aside0 (Rises l) := ⟨hS.good.ris⟩
  clear hS hno
  go_wp2_with (fail)
  refine (All_calls SC.out.env.blk SC.out.disk rfl SC.out.good.ris SC.out.good.named (by have := HLEN.out; show l.length ≤ _; omega)).mono ?_
  rintro e w5 ⟨v, rfl, hR, hb5⟩
  rw [show (idl l n).now = l from rfl] at hR
  have RW := Aside0.mk hR
  have B5 := Aside0.mk hb5
  clear hR hb5
  go_wp2_with (fail)
  refine (stowagelaw06_ids.calls 3001 A1 c1 a1 (idsS a1) w5 (Kd.C_below CB.out (below_step BC.out B5.out)) L1.out (ids_eq a1 (by have := G1.out.1; omega) _ (by omega))).mono ?_
  rintro e w6 ⟨u, rfl, hR, hb⟩
  obtain ⟨A5, c5, rfl, hc5, hC5⟩ := Kd.R_reads hR
  have C5 := Aside0.mk hC5
  have B6 : Aside0 (Below wc.heap.size wc w6) := ⟨below_step B5.out hb⟩
  have R6 := Aside0.mk (Kd.R_below RW.out hb)
  have IL := Aside0.mk (idsS_len a1)
  have IZ : Aside0 (∀ s ∈ idsS a1, s.size ≤ 1000000) := ⟨fun s hs => by rw [idsS_size hs]; decide⟩
  have IDSE := Aside0.mk (ids_eq a1 (by have := G1.out.1; omega) 3001 (by omega))
  clear hR hb hc5 hC5 RW B5
  generalize idsS a1 = ids at C5 IL IZ IDSE ⊢
  go_wp2_with (fail)
  refine (Keep_calls (SC.out.fence B6.out) A5 c5 ids C5.out (by have := IL.out; omega) IZ.out (by have := HLEN.out; omega)).mono ?_
  rintro e w7 ⟨rfl, hS, hK⟩
  obtain ⟨hS7, hK7⟩ := SC.out.back B6.out hK hS
  have S7 := Aside0.mk hS7
  have R7 := Aside0.mk (row_fence R6.out hK)
  have BW7 : Aside0 (Below W.heap.size W w7) := ⟨BC.out.trans ((hK7.mono (fun k _ h => h.1)).below BC.out.size)⟩
  have KM := Aside0.mk (keep_many RIS.out ids)
  have KI : Aside0 (∀ id ∈ allX l, isIn (allX (keepX l ids)) id = isIn ids id) := ⟨fun id hid => keep_in RIS.out ids hid⟩
  have KA := Aside0.mk (keep_again (keepX l ids))
  have HL2 : Aside0 ((keepX l ids).length ≤ 24) := ⟨by unfold keepX; rw [dels_eq RIS.out]; exact Nat.le_trans (List.length_filter_le _ _) HLEN.out⟩
  clear hS hK hS7 hK7 R6 SC B6 C5
  have HGL : Aside0 ((goneK l ids).length ≤ 24) := ⟨by have := KM.out; have := allX_len l; have := HLEN.out; omega⟩
  generalize (goneK l ids).length = g at S7 KM HGL ⊢
  generalize keepX l ids = l2 at S7 KM KI KA HL2
  generalize allX l = was at KM KI R7
  go_wp2_with (fail)
  refine (All_calls S7.out.env.blk S7.out.disk rfl S7.out.good.ris S7.out.good.named (by have := HL2.out; show l2.length ≤ _; omega)).mono ?_
  rintro e w8 ⟨v8, rfl, hR, hb⟩
  rw [show (idl l2 (n + g)).now = l2 from rfl] at hR
  have R8 := Aside0.mk (Kd.R_below R7.out hb)
  have N8 := Aside0.mk hR
  have S8 := Aside0.mk (S7.out.below hb)
  have BW8 := Aside0.mk (below_step BW7.out hb)
  have L8 : Aside0 ((allX l2).length ≤ 24) := ⟨Nat.le_trans (allX_len l2) HL2.out⟩
  clear hR hb R7 S7 BW7
  have NZ : Aside0 (∀ s ∈ allX l2, s.size ≤ 1000000) := ⟨fun s hs => by rw [(mayS_iff.1 (mem_allX.1 hs).1).2]; decide⟩
  generalize allX l2 = now at KM KI KA N8 L8 NZ
  obtain ⟨AW, cW, rfl, hcW, hCW⟩ := Kd.R_reads R8.out
  obtain ⟨AN, cN, rfl, hcN, hCN⟩ := Kd.R_reads N8.out
  have CW := Aside0.mk hCW
  have CN := Aside0.mk hCN
  have LN := Aside0.mk hcN
  clear hcW hCW hcN hCN
  have hf1 : ((((was.length : Nat) : Int) - ((now.length : Nat) : Int)) != ((g : Nat) : Int)) = false := bne_eq_false_iff_eq.2 (by have := KM.out; omega)
  have hf2 : (wrap64 (((was.length : Nat) : Int) - ((now.length : Nat) : Int)) != ((g : Nat) : Int)) = false := by rw [IntWalk.wrap64_in _ (by have := KM.out; have := L8.out; have := HGL.out; omega)]; exact hf1
  have WL : Aside0 (was.length ≤ 100) := ⟨by have := KM.out; have := L8.out; have := HGL.out; omega⟩
  go_wp2_with (fail)
  go_loopg [13] (was.length + 1) (fun kq v13 w' => ∃ t : Nat, v13 = .int .i64 (t : Int) ∧ Aside0 (t + kq = was.length + 1 ∧ t ≤ was.length) ∧ Aside0 (Below w8.heap.size w8 w'))
  case atStart => exact ⟨0, rfl, ⟨by omega, by omega⟩, ⟨Below.refl _ _⟩⟩
  case round =>
   clear hf1 hf2
   obtain ⟨t, rfl, HT, HB⟩ := hrel
   cases gk with
   | zero => have := HT.out; omega
   | succ k1 =>
    by_cases ht : t < was.length
    ·have hlt : ((t : Int) < ((was.length : Nat) : Int)) = True := eq_true (by omega)
     obtain ⟨id, hid⟩ : ∃ id, was[t]? = some id := ⟨_, List.getElem?_eq_getElem ht⟩
     have hmem : id ∈ was := List.mem_of_getElem? hid
     have hrd : rdOf ByteArray.empty was (t : Int) = id := by
      unfold rdOf
      rw [Int.toNat_natCast, List.getD_eq_getElem?_getD, hid]
      rfl
     obtain ⟨ad, e, h0⟩ := (Kd.reads_of_C (enc := Value.string) (d := ByteArray.empty) (Kd.C_below CW.out HB.out)).at_ (t : Int) (by omega) (by omega)
     rw [Int.toNat_natCast, hrd] at h0
     subst e
     have KE := Aside0.mk (KI.out id hmem)
     have AM1 := Aside0.mk (among_eq id now (by have := L8.out; omega) 1000 (by have := L8.out; omega))
     have AM2 := Aside0.mk (among_eq id ids (by have := IL.out; omega) 1000 (by have := IL.out; omega))
     rw [KE.out] at AM1
     generalize isIn ids id = b at AM1 AM2
     have hbb : (b != b) = false := by cases b <;> rfl
     clear hid hmem hrd KE
     go_wp2_with (fail)
     go_region_held3 (fun w' => w'.cell? (ad.add t) = some (.string id)) (go_keep)
      ((first
       | (go_at_call 20; (with_reducible refine (stowagelaw06_among.calls 1000 id AN cN now b _ ?s1 LN.out AM1.out).mono ?_); (case s1 => exact Kd.C_below CN.out (by first | exact HB.out | exact below_drew1 HB.out)); rintro e w9 ⟨rfl, nd, rfl⟩)
       | (go_at_call 19; (with_reducible refine (stowagelaw06_ids.calls 3001 A1 c1 a1 ids _ ?s2 L1.out IDSE.out).mono ?_); (case s2 => refine Kd.C_below CB.out ?_; (repeat (first | exact BW8.out.trans (HB.out.mono BW8.out.size) | (with_reducible refine below_drew1 ?_) | (with_reducible refine pw_below_drewN ?_ _)))); rintro e w10 ⟨v10, rfl, hR10, hb10⟩; obtain ⟨A10, c10, rfl, hc10, hC10⟩ := Kd.R_reads hR10; have C10 := Aside0.mk hC10; have LC10 := Aside0.mk hc10; have B10 : Aside0 (Below w8.heap.size w8 w10) := ⟨by refine below_step ?_ hb10; (repeat (first | exact HB.out | (with_reducible refine below_drew1 ?_) | (with_reducible refine pw_below_drewN ?_ _)))⟩; have q10 : w10.cell? (ad.add t) = some (.string id) := (hb10.cell (World.block_lt_of_cell? _ _ (by exact h0))).trans (by exact h0); clear hR10 hb10 hc10 hC10)
       | (go_at_call 20; (with_reducible refine (stowagelaw06_among.calls 1000 id A10 c10 ids b _ ?s3 LC10.out AM2.out).mono ?_); (case s3 => first | exact C10.out | exact Kd.C_below C10.out (below_drew1 (Below.refl _ _))); rintro e w11 ⟨rfl, nd, rfl⟩)))
     all_goals (
      go_wp2_with (fail)
      go_roundg k1
      case measure => have := HT.out; omega
      case rel => exact ⟨t + 1, by first | rfl | (rw [IntWalk.wrap64_in _ (by have := WL.out; omega)]; rfl), ⟨by have := HT.out; omega, by omega⟩, ⟨pw_below_drewN B10.out nd⟩⟩)
    ·obtain rfl : t = was.length := by have := HT.out; omega
     have hlt : (((was.length : Nat) : Int) < ((was.length : Nat) : Int)) = False := eq_false (by omega)
     go_wp2_with (fail)
     refine (Keep_calls (S8.out.below HB.out) AN cN now (Kd.C_below CN.out HB.out) (by have := L8.out; omega) NZ.out (by have := HL2.out; have := HGL.out; omega)).mono ?_
     rintro e w9 ⟨rfl, hS, hK⟩
     rw [KA.out]
     have B9 : Aside0 (Below W.heap.size W w9) := ⟨BW8.out.trans (((Kp.of_below HB.out).trans (hK.mono (fun k _ h => h.1))).below BW8.out.size)⟩
     clear hS hK
     go_wp2
     go_ret
     exact ⟨rfl, B9.out⟩
end Go.Proofs.YtdeakccaecphlaaGreatDoor.Q
