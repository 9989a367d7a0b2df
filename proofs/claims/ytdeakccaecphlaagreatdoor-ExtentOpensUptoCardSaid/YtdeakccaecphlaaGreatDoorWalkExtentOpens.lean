/- ExtentOpens answers true at every input. -/
import Derived.Outline
import Derived.Deep.DeepCutAuto
import Derived.Test.YtdeakccaecphlaaGreatDoorX8
namespace Go.Proofs.YtdeakccaecphlaaGreatDoor.Q
open Go.Maps Go.WideShapes Go.WideMaps Go.RowKit Go.Proofs.YtdeakccaecphlaaGreatDoorW.PrintWords Go.Proofs.YtdeakccaecphlaaGreatDoorW.PrintLast Go.Proofs.YtdeakccaecphlaaGreatDoorW.PrintMore
set_option linter.unusedVariables false
set_option linter.unusedSimpArgs false
set_option maxHeartbeats 10000000
set_option maxRecDepth 100000
/-! writes, whatever the names -/
theorem IsD.fence {w w2 : World} {d : Nat} {ok : Nat → Prop} {st : DK} (h : IsD w d ok st) (hb : Below w.heap.size w w2) : IsD w2 d (fun k => (ok k ∧ k < w.heap.size) ∨ w2.heap.size ≤ k) st := (h.bound.below hb).mono (fun k hk => Or.inl hk)
theorem mid_write (l now : Fs) (ws : List Chg) (n : Int) (nm s : ByteArray) : writeK (mid l now ws n) nm s = if nameS nm = true then (mid l (putF now nm s) (ws ++ [⟨1, nm, ⟨#[]⟩, s, 0⟩]) (n + 1), 0) else (mid l now ws n, 20) := by
 unfold writeK
 by_cases h : nameS nm = true
 ·rw [if_pos (show askE (mid l now ws n).down [nm] = 0 by unfold askE mid; rw [if_neg (by simp), if_pos (by rw [List.all_cons, h]; rfl)]), if_neg (show ¬ roomE (mid l now ws n) (getF (mid l now ws n).now nm).size s.size = true by unfold roomE mid; simp), changeK_none (show hitI (mid l now ws n) = none from rfl), if_pos h]
  rfl
 ·have e : askE (mid l now ws n).down [nm] = 20 := by unfold askE mid; rw [if_neg (by simp), if_neg (by rw [List.all_cons, Bool.eq_false_iff.2 h]; simp)]
  rw [e, if_neg (by decide), if_neg h]
def Sm2 (l : Fs) : Prop := ∀ p ∈ l, p.2.size ≤ 1048576
/-! same -/
theorem same_go (l : List S28) (hl : l.length ≤ 1000000000) : ∀ (d i : Nat), i + d = l.length → Ev (fun k => stowagelaw06_same.l0 k l l (i : Int)) true
 | 0, i, h => Ev.step (f := fun _ => some true) (fun k => by rw [stowagelaw06_same.l0, if_neg (by omega)]) ⟨0, fun _ _ => by simp⟩
 | d + 1, i, h => by
  refine Ev.step (f := fun k => stowagelaw06_same.l0 k l l ((i + 1 : Nat) : Int)) (fun k => ?_) (same_go l hl d (i + 1) (by omega))
  rw [stowagelaw06_same.l0, if_pos (by omega), if_pos (by omega), if_pos (by omega), w1n i (by omega), if_neg (by simp)]
theorem same_calls (w : World) (A B : Option Addr) (c e0 : Nat) (l : List S28) (hA : Kd.C k28 w A l.length l) (hB : Kd.C k28 w B l.length l) (hc : l.length ≤ c) (he : l.length ≤ e0) (hl : l.length ≤ 1000000000) :
  Calls Tryz.prog 12 #[.slice A l.length c, .slice B l.length e0] w fun e w' => e = .returned (.bool true) ∧ Below w.heap.size w w' := by
 have h : Ev (fun k => stowagelaw06_same.f k l l) true := Ev.congr (fun k => if_pos rfl) (same_go l hl l.length 0 (by omega))
 obtain ⟨k, hk⟩ := h.rounds
 exact (stowagelaw06_same.calls k A c l B e0 l true w hA hc hB he hk).mono fun e w' ⟨h1, h2⟩ => ⟨h1, h2.below⟩
/-! changed -/
theorem w_ExtentOpens (W : World) (hG : InG W) (A0 : Option Addr) (c0 : Nat) (a0 : List S28) (l0 : a0.length ≤ c0) (C0 : Kd.C k28 W A0 a0.length a0) (g0 : ∀ y ∈ a0, y.f0.size ≤ 1048576 ∧ y.f1.size ≤ 1048576) (gl : a0.length ≤ 1048576) :
  Calls Tryz.prog 3 #[.slice A0 a0.length c0] W fun e w' => e = .returned (.bool true) ∧ Below W.heap.size W w' := by
 have G := Aside0.mk hG
 have CA := Aside0.mk C0
 have G0 := Aside0.mk g0
 have GL := Aside0.mk gl
 clear hG C0 g0 gl l0
 obtain ⟨p, hp⟩ : ∃ p, p = a0.length := ⟨_, rfl⟩
 have HP := Aside0.mk hp
 rw [← hp] at CA GL ⊢
 clear hp
 go_enter Tryz.func3, Tryz.ntmps3
 go_wp2_with (fail)
 refine (new_calls W).mono ?_
 rintro e w1 ⟨d, rfl, hI, hb⟩
 have B1 := Aside0.mk hb
 have I1 : Aside0 (IsD w1 d (fun k => W.heap.size ≤ k) (mid [] [] [] 0)) := ⟨hI⟩
 clear hb hI
 go_upto_block 0 with (fail)
 go_cut [4] (fun u4 wx => Aside0 (∃ (now : Fs) (ws : List Chg) (n : Int), IsD wx d (fun k => W.heap.size ≤ k) (mid [] now ws n) ∧ Good 12 (mid [] now ws n) ∧ Sm2 now) ∧ Aside0 (Below W.heap.size W wx))
 case first =>
  go_wp2_with (fail)
  go_loopg [4] (p + 1) (fun kq v4 w' => ∃ (j : Nat), v4 = .int .i64 (j : Int) ∧ Aside0 (j + kq = p + 1 ∧ j ≤ p ∧ j ≤ 12) ∧ Aside0 (∃ (now : Fs) (ws : List Chg) (n : Int), IsD w' d (fun k => W.heap.size ≤ k) (mid [] now ws n) ∧ Good j (mid [] now ws n) ∧ Sm2 now) ∧ Aside0 (Below W.heap.size W w'))
  case atStart => exact ⟨0, rfl, ⟨by omega, by omega, by omega⟩, ⟨[], [], 0, I1.out, good_new, fun p hp => by cases hp⟩, B1⟩
  case round =>
   clear I1 B1
   obtain ⟨j, rfl, HJ, HS, HB⟩ := hrel
   cases gk with
   | zero => have := HJ.out; omega
   | succ k1 =>
    by_cases hj : j < p
    ·by_cases h12 : j < 12
     ·have hlt : ((j : Int) < (p : Int)) = True := eq_true (by omega)
      have hlt2 : ((j : Int) < 12) = True := eq_true (by omega)
      have hd : decide ((j : Int) < (p : Int)) = true := decide_eq_true (by omega)
      have hd2 : decide ((j : Int) < 12) = true := decide_eq_true (by omega)
      obtain ⟨ad, e, h0, h1⟩ := at_T28 (Kd.C_below CA.out HB.out) (j : Int) (by omega) (by omega)
      have hnb : ¬ W.heap.size ≤ ad.block := by
       obtain ⟨ad', e', h0', _⟩ := at_T28 CA.out (j : Int) (by omega) (by omega)
       rw [e] at e'
       injection e' with e'
       subst e'
       have := World.block_lt_of_cell? W _ h0'
       unfold Addr.add at this
       split at this <;> exact Nat.not_le.2 this
      have hmem : rd_T28 a0 (j : Int) ∈ a0 := by
       unfold rd_T28
       rw [Int.toNat_natCast, List.getD_eq_getElem?_getD, List.getElem?_eq_getElem (by have := HP.out; omega)]
       exact List.getElem_mem _
      have GZ := Aside0.mk (G0.out _ hmem)
      rw [Int.toNat_natCast] at h0 h1
      generalize rd_T28 a0 (j : Int) = y at h0 h1 GZ
      subst e
      obtain ⟨now, ws, n, hD, hGd, hS2⟩ := HS.out
      have D5 := Aside0.mk hD
      have G5 := Aside0.mk hGd
      have S5 := Aside0.mk hS2
      have NB := Aside0.mk hnb
      have BK : Aside0 ((ad.add (j * 2)).block = ad.block) := ⟨by unfold Addr.add; split <;> rfl⟩
      have CAN : Aside0 (CanC (mid [] now ws n) ⟨1, y.f0, ⟨#[]⟩, y.f1, 0⟩) := ⟨hGd.can (by omega) (hGd.okc (by omega) (by decide) (Nat.le_trans GZ.out.1 (by decide)) (by decide) (Nat.le_trans GZ.out.2 (by decide)) (fun e => absurd e (by decide)))⟩
      have G6 : Aside0 (Good (j + 1) (writeK (mid [] now ws n) y.f0 y.f1).1) := ⟨by
       have := hGd.call (k := 1) (a := y.f0) (b := ⟨#[]⟩) (s := y.f1) (n := 0) (by omega) (by decide) (Nat.le_trans GZ.out.1 (by decide)) (by decide) (Nat.le_trans GZ.out.2 (by decide))
       unfold callK at this
       rw [if_neg (by decide), if_pos rfl] at this
       exact this⟩
      clear hD hGd hS2 hnb hmem HS
      go_wp2_with (fail)
      go_region_held3 (fun w' => w'.cell? (ad.add (j * 2)) = some (.string y.f0) ∧ w'.cell? ⟨(ad.add (j * 2)).block, (ad.add (j * 2)).off + 1, none⟩ = some (.string y.f1)) (go_keep)
       ((go_at_call 6; (with_reducible refine (write_calls (ok := fun k => W.heap.size ≤ k) (st := mid [] now ws n) ?d1 ?d2 y.f0 y.f1 (Nat.le_trans GZ.out.1 (by decide)) ⟨G5.out.small (by have := HJ.out; omega), Nat.le_trans GZ.out.2 (by decide)⟩ (fun _ _ => CAN.out)).mono ?_); (case d1 => exact D5.out.step (fun _ _ _ => rfl)); (case d2 => exact fun k hk => Nat.le_trans HB.out.size hk); rintro e w6 ⟨rfl, hI, hK⟩; have D6 := Aside0.mk hI; have B6 : Aside0 (Below W.heap.size W w6) := ⟨HB.out.trans (by first | exact hK.below HB.out.size | exact ((Kp.refl _ wr).drew.trans hK).below HB.out.size)⟩; have r0 := hK.cell (a := ad.add (j * 2)) (by show ¬ W.heap.size ≤ (ad.add (j * 2)).block; rw [BK.out]; exact NB.out) (by exact h0); have r1 := hK.cell (a := ⟨(ad.add (j * 2)).block, (ad.add (j * 2)).off + 1, none⟩) (by show ¬ W.heap.size ≤ (ad.add (j * 2)).block; rw [BK.out]; exact NB.out) (by exact h1); clear hI hK))
      all_goals (
       go_wp2_with (fail)
       go_roundg k1
       case measure => have := HJ.out; omega
       case rel =>
        refine ⟨j + 1, rfl, ⟨by have := HJ.out; omega, by omega, by omega⟩, ⟨?_⟩, B6⟩
        have hD := D6.out
        have hG := G6.out
        rw [mid_write] at hD hG
        by_cases hn : nameS y.f0 = true
        ·rw [if_pos hn] at hD hG
         refine ⟨_, _, _, hD, hG, fun q hq => ?_⟩
         rcases mem_putF.1 hq with rfl | ⟨hq, _⟩
         ·exact GZ.out.2
         ·exact S5.out q hq
        ·rw [if_neg hn] at hD hG
         exact ⟨_, _, _, hD, hG, S5.out⟩)
     ·have hlt : ((j : Int) < (p : Int)) = True := eq_true (by omega)
      have hlt2 : ((j : Int) < 12) = False := eq_false (by omega)
      have hd : decide ((j : Int) < (p : Int)) = true := decide_eq_true (by omega)
      have hd2 : decide ((j : Int) < 12) = false := decide_eq_false (by omega)
      have HS' : Aside0 (∃ (now : Fs) (ws : List Chg) (n : Int), IsD wr d (fun k => W.heap.size ≤ k) (mid [] now ws n) ∧ Good 12 (mid [] now ws n) ∧ Sm2 now) := ⟨by obtain ⟨now, ws, n, h1, h2, h3⟩ := HS.out; exact ⟨now, ws, n, h1, h2.mono (by have := HJ.out; omega), h3⟩⟩
      go_wp2_with (fail)
      go_meet
      case rel => exact ⟨HS', HB⟩
    ·have hlt : ((j : Int) < (p : Int)) = False := eq_false (by omega)
     have hd : decide ((j : Int) < (p : Int)) = false := decide_eq_false (by omega)
     have HS' : Aside0 (∃ (now : Fs) (ws : List Chg) (n : Int), IsD wr d (fun k => W.heap.size ≤ k) (mid [] now ws n) ∧ Good 12 (mid [] now ws n) ∧ Sm2 now) := ⟨by obtain ⟨now, ws, n, h1, h2, h3⟩ := HS.out; exact ⟨now, ws, n, h1, h2.mono (by have := HJ.out; omega), h3⟩⟩
     go_wp2_with (fail)
     go_meet
     case rel => exact ⟨HS', HB⟩
 case rest =>
  clear I1 B1
  obtain ⟨⟨l, ws, n, hD, hGd, hS2⟩, BC⟩ := hcut
  have DC := Aside0.mk hD
  have GC := Aside0.mk hGd
  have S2 := Aside0.mk hS2
  clear hD hGd hS2
  go_wp2_with (fail)
  refine (sync_calls DC.out (fun k hk => Nat.le_trans BC.out.size hk)).mono ?_
  rintro e w5 ⟨rfl, hI, hK⟩
  rw [(mid_sync _ _ _ _).1] at hI
  rw [(mid_sync _ _ _ _).2]
  have D5 := Aside0.mk hI
  have G5 : Aside0 (Good 12 (idl l n)) := ⟨by have := GC.out.sync.1; rw [(mid_sync _ _ _ _).1] at this; exact this⟩
  have B5 : Aside0 (Below W.heap.size W w5) := ⟨BC.out.trans (hK.below BC.out.size)⟩
  have RIS : Aside0 (Rises l) := ⟨GC.out.ris⟩
  have HLN : Aside0 (l.length ≤ 12) := ⟨GC.out.len⟩
  have FI : Aside0 (∀ p ∈ l, p.1.size ≤ 80 ∧ p.2.size ≤ 10000000) := ⟨fun p hp => ⟨(nameS_iff.1 (GC.out.named p hp)).2.2, Nat.le_trans (S2.out p hp) (by decide)⟩⟩
  have SM : Aside0 (Sml l) := ⟨fun p hp => Nat.le_trans (FI.out p hp).2 (by decide)⟩
  clear hI hK DC GC S2
  go_wp2_with (fail)
  refine (files_calls D5.out ⟨rfl, G5.out.ris, G5.out.named, by have := HLN.out; show l.length ≤ _; omega⟩).mono ?_
  rintro e w6 ⟨v, rfl, hR, hb⟩
  rw [show (idl l n).now = l from rfl] at hR
  obtain ⟨A6, c6, rfl, hc6, hC6⟩ := Kd.R_reads hR
  have C6 := Aside0.mk hC6
  have LC6 := Aside0.mk hc6
  have B6 := Aside0.mk hb
  clear hR hb hC6 hc6
  go_wp2_with (fail)
  refine (stowageref06_Open.calls 202000001 A6 c6 (filesL l) (filesL (openX l)) ((manyX l : Nat) : Int) w6 C6.out LC6.out (ref_open RIS.out (by have := HLN.out; omega) FI.out _ (by omega))).mono ?_
  rintro e w7 ⟨v7, rfl, hR, hb⟩
  have R7 := Aside0.mk hR
  have B7 : Aside0 (Below w5.heap.size w5 w7) := ⟨below_step B6.out hb⟩
  have N7 : Aside0 (w5.heap.size ≤ w6.heap.size) := ⟨B6.out.size⟩
  clear hR hb C6 LC6 B6
  have G7 : Aside0 (InG w7) := ⟨G.out.below (B5.out.trans (B7.out.mono B5.out.size))⟩
  go_wp2_with (fail)
  refine (Open_calls (i := 12) (ok := fun k => (W.heap.size ≤ k ∧ k < w5.heap.size) ∨ w7.heap.size ≤ k) G7.out (by rintro (⟨h, _⟩ | h); have := G.out.pos; omega; have := G7.out.pos; omega) (fun k hk => Or.inr hk) (D5.out.fence B7.out) G5.out SM.out (by have := HLN.out; omega)).mono ?_
  rintro e w8 ⟨x, rfl, hx, hS, hK⟩
  have R8 := Aside0.mk (row_keep (Kd.R_mono (Kd.R_bound R7.out) (ok' := fun k => w5.heap.size ≤ k ∧ k < w7.heap.size) (fun k hk => ⟨Nat.le_trans N7.out hk.2.1, hk.2.2.1⟩)) (by rintro k ⟨h1, h2⟩ _ (⟨_, h3⟩ | h3); omega; omega) w8 hK)
  have S8 := Aside0.mk hS
  have B8 : Aside0 (Below W.heap.size W w8) := ⟨B5.out.trans (B7.out.mono B5.out.size) |>.trans ((hK.mono (ok' := fun k => W.heap.size ≤ k) (fun k _ h => by rcases h with ⟨h, _⟩ | h; exact h; exact Nat.le_trans (Nat.le_trans B5.out.size B7.out.size) h)).below (Nat.le_trans B5.out.size B7.out.size))⟩
  have OA := Aside0.mk (open_again RIS.out)
  have OR : Aside0 (Rises (openX l)) := ⟨dels_rises _ RIS.out⟩
  have OL : Aside0 ((openX l).length ≤ 12) := ⟨by rw [openX_stay RIS.out]; exact Nat.le_trans (List.length_filter_le _ _) HLN.out⟩
  have GL2 : Aside0 ((goneX l).length ≤ 13) := ⟨by unfold goneX; rw [List.length_append]; have h1 := newL_len l; have h2 := badL_len l (allX l); have h3 := allX_len l; have := HLN.out; omega⟩
  clear hS hK D5 G5 R7
  generalize openX l = l2 at R8 S8 OA OR OL
  generalize (goneX l).length = g at S8 GL2
  generalize hn2 : n + (g : Int) = n2 at S8
  clear hn2
  generalize ((manyX l : Nat) : Int) = km
  have hkm : (km != km) = false := bne_self_eq_false km
  go_wp2_with (fail)
  refine (awake_calls w8 S8.out.env.tab).mono ?_
  rintro e w9 ⟨rfl, hb⟩
  have S9 := Aside0.mk (S8.out.below hb)
  have R9 := Aside0.mk (Kd.R_below R8.out hb)
  have B9 := Aside0.mk (below_step B8.out hb)
  clear hb R8 S8 B8
  go_wp2_with (fail)
  refine (files_calls S9.out.disk ⟨rfl, S9.out.good.ris, S9.out.good.named, by have := OL.out; show l2.length ≤ _; omega⟩).mono ?_
  rintro e w10 ⟨v10, rfl, hR, hb⟩
  rw [show (idl l2 n2).now = l2 from rfl] at hR
  obtain ⟨A10, c10, rfl, hc10, hC10⟩ := Kd.R_reads hR
  obtain ⟨A9, c9, rfl, hc9, hC9⟩ := Kd.R_reads (Kd.R_below R9.out hb)
  have C10 := Aside0.mk hC10
  have C9 := Aside0.mk hC9
  have LC10 := Aside0.mk hc10
  have LC9 := Aside0.mk hc9
  have S10 := Aside0.mk (S9.out.below hb)
  have B10 := Aside0.mk (below_step B9.out hb)
  have FL : Aside0 ((filesL l2).length ≤ 1000) := ⟨by have : (filesL l2).length = l2.length := List.length_map ..; have := OL.out; omega⟩
  clear hR hb hC10 hC9 hc10 hc9 R9 S9 B9
  go_wp2_with (fail)
  refine (same_calls w10 A10 A9 c10 c9 (filesL l2) C10.out C9.out LC10.out LC9.out (by have := FL.out; omega)).mono ?_
  rintro e w11 ⟨rfl, hb⟩
  have S11 := Aside0.mk (S10.out.below hb)
  have B11 := Aside0.mk (below_step B10.out hb)
  clear hb S10 B10 C10 C9 LC10 LC9
  go_wp2_with (fail)
  refine (waits_calls S11.out.disk).mono ?_
  rintro e w12 ⟨rfl, rfl⟩
  rw [show (idl l2 n2).wait.length = 0 from rfl]
  go_wp2_with (fail)
  refine (changes_calls S11.out.disk).mono ?_
  rintro e w13 ⟨rfl, rfl⟩
  rw [show (idl l2 n2).count = n2 from rfl]
  go_wp2_with (fail)
  refine (Open_calls S11.out.env.tab S11.out.env.no0 S11.out.env.new S11.out.disk S11.out.good S11.out.sml (by have := OL.out; have := GL2.out; omega)).mono ?_
  rintro e w14 ⟨y, rfl, hy, hS, hK⟩
  rw [OA.out.1, OA.out.2.2] at hS
  rw [OA.out.2.1]
  have S14 := Aside0.mk hS
  have B14 : Aside0 (Below W.heap.size W w14) := ⟨B11.out.trans ((hK.mono (ok' := fun k => W.heap.size ≤ k) (fun k _ h => by rcases h.1 with ⟨h, _⟩ | h; exact h; exact Nat.le_trans (Nat.le_trans B5.out.size B7.out.size) h)).below B11.out.size)⟩
  clear hS hK S11 B11
  go_wp2_with (fail)
  refine (changes_calls S14.out.disk).mono ?_
  rintro e w15 ⟨rfl, rfl⟩
  rw [show (idl l2 (n2 + (([] : List ByteArray).length : Nat))).count = n2 from Int.add_zero n2]
  have hnn : (n2 == n2) = true := beq_self_eq_true n2
  go_wp2
  go_ret
  exact ⟨rfl, B14.out⟩
theorem mem_sum {α : Type} (f : α → Nat) : ∀ {l : List α} {y : α}, y ∈ l → f y ≤ (l.map f).sum
 | x :: l, y, h => by
  rw [List.map_cons, List.sum_cons]
  rcases List.mem_cons.1 h with rfl | h
  ·omega
  ·have := mem_sum f h; omega
theorem len_sum {α : Type} (f : α → Nat) (hf : ∀ x, 1 ≤ f x) : ∀ l : List α, l.length ≤ (l.map f).sum
 | [] => Nat.zero_le _
 | x :: l => by
  have h1 := len_sum f hf l
  have h2 := hf x
  rw [List.map_cons, List.sum_cons, List.length_cons]
  omega
theorem w_ExtentOpensU (W : World) (hG : InG W) (A0 : Option Addr) (c0 : Nat) (a0 : List S28) (l0 : a0.length ≤ c0) (C0 : Kd.C k28 W A0 a0.length a0) (g0 : (a0.length * 32 ≤ 140737488351232 ∧ ∀ y0 ∈ a0, (y0.f0.size ≤ 140737488351232 ∧ y0.f1.size ≤ 140737488351232))) (hb : ((a0.map fun y0 => (((y0.f0.size + 1) + (y0.f1.size + 1)) + 1)).sum + 1) ≤ 1048576) :
  Calls Tryz.prog 3 #[.slice A0 a0.length c0] W fun e w' => e = .returned (.bool true) ∧ Below W.heap.size W w' :=
 w_ExtentOpens W hG A0 c0 a0 l0 C0 (fun y hy => by have := mem_sum (fun y0 : S28 => ((y0.f0.size + 1) + (y0.f1.size + 1)) + 1) hy; omega) (by have := len_sum (fun y0 : S28 => ((y0.f0.size + 1) + (y0.f1.size + 1)) + 1) (fun x => by omega) a0; omega)
end Go.Proofs.YtdeakccaecphlaaGreatDoor.Q
