
/- TopParts answers true at every input. -/
import Derived.Outline
import Derived.Deep.DeepCutAuto
import Derived.Test.YtpgbkeaaklglkaaGreatDoorPw
namespace Go.Proofs.YtpgbkeaaklglkaaGreatDoor.Q
open Go.Maps Go.WideShapes Go.WideMaps Go.RowKit Go.Proofs.YtpgbkeaaklglkaaGreatDoorW.PrintWords Go.Proofs.YtpgbkeaaklglkaaGreatDoorW.PrintLast Go.Proofs.YtpgbkeaaklglkaaGreatDoorW.PrintMore
set_option linter.unusedVariables false
set_option linter.unusedSimpArgs false
set_option maxHeartbeats 10000000
set_option maxRecDepth 100000
/-! ### the law's walk -/
theorem sumS_big {l : List ByteArray} (hg : ∀ y ∈ l, y.size ≤ 140737488351232) : sumS l ≤ l.length * 140737488351232 := by
 induction l with
 | nil => simp [sumS]
 | cons s r ih =>
  have h1 := hg s List.mem_cons_self
  have h2 := ih (fun y hy => hg y (List.mem_cons_of_mem _ hy))
  have e : sumS (s :: r) = s.size + sumS r := by simp [sumS]
  rw [e, List.length_cons, Nat.add_mul]
  omega
theorem place_mod (z : Int) (p : Nat) (h0 : 0 < p) (h1 : p ≤ 12) : ∃ k : Nat, (wrap64 (z.tmod (p : Int) + (p : Int))).tmod (p : Int) = (k : Int) ∧ k < p := by
 have h2 := Int.tmod_lt_of_pos z (show (0 : Int) < (p : Int) by omega)
 have h3 := Int.lt_tmod_of_pos z (show (0 : Int) < (p : Int) by omega)
 rw [IntWalk.wrap64_in _ (by omega), Int.tmod_eq_emod_of_nonneg (by omega)]
 have h4 := Int.emod_nonneg (z.tmod (p : Int) + (p : Int)) (show (p : Int) ≠ 0 by omega)
 have h5 := Int.emod_lt_of_pos (z.tmod (p : Int) + (p : Int)) (show (0 : Int) < (p : Int) by omega)
 exact ⟨((z.tmod (p : Int) + (p : Int)) % (p : Int)).toNat, by omega, by omega⟩
theorem sumS_mem {l : List ByteArray} {s : ByteArray} (h : s ∈ l) : s.size ≤ sumS l := by
 induction l with
 | nil => cases h
 | cons a r ih =>
  rw [sumS_cons]
  rcases List.mem_cons.1 h with rfl | h
  ·omega
  ·have := ih h; omega
/-- the store and the parts behind t rounds -/
structure TopS (W : World) (x d : Nat) (l : List ByteArray) (t i : Nat) (wr : World) (v : Value) (ok : Nat → Prop) (F : Fs) (n : Int) : Prop where
 sub : ∀ q, ok q → W.heap.size ≤ q
 sto : Sto wr x d ok i F n
 no : hasF F nEN = false
 fi : FI (· ∈ l.flatMap (piecesS 4096)) F
 has : ∀ (k : Nat) (hk : k < l.length), l.length ≤ k + t → ∀ b ∈ piecesS 4096 l[k], hasX F (idS b) = true
 row : k38.R 38 wr W.heap.size (fun q => W.heap.size ≤ q ∧ ¬ ok q) v (partsL l t)
theorem TopS.start {W w : World} {x d : Nat} {l : List ByteArray} {n : Int} (h : Sto w x d (fun k => W.heap.size ≤ k ∧ k ≠ x) 0 [] n) : TopS W x d l 0 (10 * 0) w (.slice none 0 0) (fun k => W.heap.size ≤ k ∧ k ≠ x) [] n :=
 ⟨fun q hq => hq.1, h, by decide, FI_nil _, fun k hk h => by omega, by
  have e : partsL l 0 = [] := by unfold partsL; rw [List.drop_of_length_le (by omega)]; rfl
  rw [e]
  exact Kd.R_nil _ _ _ _ _⟩
theorem TopS.stop {W w : World} {x d : Nat} {l : List ByteArray} {t : Nat} {v : Value} {ok : Nat → Prop} {F : Fs} {n : Int} (h : TopS W x d l t (10 * t) w v ok F n) (h1 : l.length ≤ t) (h2 : t ≤ 40) : TopS W x d l l.length 400 w v ok F n :=
 ⟨h.sub, h.sto.mono (by omega), h.no, h.fi, fun k hk _ => h.has k hk (by omega), by have := h.row; rw [partsL_all h1] at this; rw [partsL_all (Nat.le_refl _)]; exact this⟩
theorem TopS.below {W w w2 : World} {x d : Nat} {l : List ByteArray} {t i : Nat} {v : Value} {ok : Nat → Prop} {F : Fs} {n : Int} (h : TopS W x d l t i w v ok F n) (hb : Below w.heap.size w w2) : TopS W x d l t i w2 v ok F n :=
 ⟨h.sub, h.sto.below hb, h.no, h.fi, h.has, Kd.R_below h.row hb⟩
theorem TopS.row5 {W w w5 : World} {x d : Nat} {l : List ByteArray} {t i : Nat} {v : Value} {ok : Nat → Prop} {F : Fs} {n : Int} (h : TopS W x d l t i w v ok F n) (hK : Kp ok w w5) : k38.R 38 w5 W.heap.size (fun q => W.heap.size ≤ q ∧ ¬ ok q) v (partsL l t) :=
 Kd.R_step h.row (fun q hq hlt => hK.block q hlt hq.2)
theorem TopS.next {W w w5 w8 w9 : World} {x d : Nat} {l : List ByteArray} {t i : Nat} {v v9 : Value} {ok ok2 : Nat → Prop} {F : Fs} {n n5 : Int} (h : TopS W x d l t i w v ok F n) (hl : AllSm l) {k : Nat} (hk : k < l.length) (hc : (t < l.length ∧ k + 1 + t = l.length) ∨ l.length ≤ t) {s : ByteArray} (hs : s = l[k])
  (hsub : ∀ q, ok2 q → ok q) (hS : Sto w5 x d ok2 (i + 2 * (piecesS 4096 s).length) ((piecesS 4096 s).foldl putX F) n5) (hno : hasF ((piecesS 4096 s).foldl putX F) nEN = false) (hB : Below w5.heap.size w5 w9) (hw8 : w5.heap.size ≤ w8.heap.size) (hW : W.heap.size ≤ w5.heap.size) (hR : k38.R 38 w9 w8.heap.size (fun _ => True) v9 (partsL l (t + 1))) :
  TopS W x d l (t + 1) (i + 10) w9 v9 (fun q => (ok2 q ∧ q < w5.heap.size) ∨ w9.heap.size ≤ q) ((piecesS 4096 s).foldl putX F) n5 := by
 have hsm : s.size ≤ 20000 := by rw [hs]; exact hl _ (List.getElem_mem hk)
 have hpl := pieces_len hsm
 have hx := hS.env.lt
 have h0 := hS.env.tab.pos
 have hin : ∀ b ∈ piecesS 4096 s, b ∈ l.flatMap (piecesS 4096) ∧ 0 < b.size ∧ b.size ≤ 4096 := fun b hb => ⟨List.mem_flatMap.2 ⟨l[k], List.getElem_mem hk, by rw [← hs]; exact hb⟩, pieces_in s b hb⟩
 obtain ⟨f1, f2, f3⟩ := FI_fold h.fi hin
 refine ⟨fun q hq => hq.elim (fun h3 => h.sub q (hsub q h3.1)) (fun h3 => Nat.le_trans hW (Nat.le_trans hB.size h3)), (hS.wall hB.size (fun q _ hlt => hB.block q hlt) (hB.block 0 h0) (hB.block x hx)).mono (by omega), hno, f1, fun k' hk' hlt b hb => ?_, ?_⟩
 ·by_cases hlt2 : l.length ≤ k' + t
  ·exact f2 _ (h.has k' hk' hlt2 b hb)
  ·obtain rfl : k' = k := by omega
   rw [← hs] at hb
   exact f3 b hb
 ·refine Kd.R_mono (Kd.R_lower (Kd.R_bound hR) (Nat.le_trans hW hw8)) (fun q hq => ⟨Nat.le_trans hW (Nat.le_trans hw8 hq.2.1), ?_⟩)
  rintro (⟨_, h3⟩ | h3)
  ·have := hq.2.1; omega
  ·have := hq.2.2.1; omega
theorem hexS_calls (s : ByteArray) (w : World) : Calls Tryz.prog 8 #[.string (sha s)] w fun e w' => e = .returned (.string (sumH s)) ∧ Below w.heap.size w w' := digest_Hex.calls (sha s) w (by rw [sha_size]; decide)
/-- what the first loop told: all bytes, and is a part too small; of up to 12 texts -/
def Told (l : List ByteArray) (j : Nat) (N : Int) (b : Bool) : Prop := l.length ≤ 12 → N = (sumS (l.take j) : Int) ∧ b = smallU l j
theorem odd_p {A : Option Addr} {c p : Nat} {l : List ByteArray} {w : World} (hp : p = l.length) (hr : Kd.C Kd.string w A p l) (hc : p ≤ c) (h : stowagetop_odd.f 50000 l = some true) :
  Calls Tryz.prog 12 #[.slice A p c] w fun e w' => e = .returned (.bool true) ∧ Below w.heap.size w w' := by
 subst hp
 exact stowagetop_odd.calls 50000 A c l true w hr hc h
theorem info41 : (Tryz.prog.info? 41).map (fun i => (i.zero, i.size, i.bytes)) = some (some (.agg #[(.int .i64 0), (.string ⟨#[]⟩)]), 2, 24) := by kernel_rfl
theorem w_TopParts (W : World) (hG : InG W) (A0 : Option Addr) (c0 : Nat) (a0 : List ByteArray) (l0 : a0.length ≤ c0) (C0 : Kd.C Kd.string W A0 a0.length a0) (g0 : a0.length * 16 ≤ 140737488351232 ∧ ∀ y0 ∈ a0, y0.size ≤ 140737488351232)
  (A1 : Option Addr) (c1 : Nat) (a1 : List Int) (l1 : a1.length ≤ c1) (C1 : Kd.C (Kd.int .i64) W A1 a1.length a1) (g1 : a1.length * 8 ≤ 140737488351232 ∧ ∀ y0 ∈ a1, (Lit.int .i64 y0).wf = true) :
  Calls Tryz.prog 3 #[.slice A0 a0.length c0, .slice A1 a1.length c1] W fun e w' => e = .returned (.bool true) ∧ Below W.heap.size W w' := by
 have G := Aside0.mk hG
 have CA := Aside0.mk C0
 have CB := Aside0.mk C1
 have G0 := Aside0.mk g0
 have G1 := Aside0.mk g1
 have L0 := Aside0.mk l0
 clear hG C0 C1 g0 g1 l0 l1
 obtain ⟨p, hp⟩ : ∃ p, p = a0.length := ⟨_, rfl⟩
 have HP := Aside0.mk hp
 have P0 : Aside0 (p ≤ 8796093021952) := ⟨by have := G0.out.1; omega⟩
 rw [← hp] at CA L0 ⊢
 clear hp
 obtain ⟨m, hm⟩ : ∃ m, m = a1.length := ⟨_, rfl⟩
 have HM := Aside0.mk hm
 have M0 : Aside0 (m ≤ 17592186043904) := ⟨by have := G1.out.1; omega⟩
 rw [← hm] at CB ⊢
 clear hm
 go_enter Tryz.func3, Tryz.ntmps3
 go_wp2_with (fail)
 refine (new_calls W).mono ?_
 rintro e w1 ⟨d, rfl, hI, hb⟩
 rw [newK_idl] at hI
 have B1 := Aside0.mk hb
 have I1 := Aside0.mk hI
 clear hb hI
 go_wp2_with (fail)
 refine (Open_calls (i := 0) (G.out.below B1.out) (by have := G.out.pos; omega) (fun k hk => Nat.le_trans B1.out.size hk) I1.out idl_new (fun p hp => by cases hp) (by decide)).mono ?_
 rintro e w2 ⟨x, rfl, hx, hS, hK⟩
 rw [show openX [] = [] by unfold openX; rw [gone_nil.1]; rfl, gone_nil.1] at hS
 rw [gone_nil.2]
 have S2 := Aside0.mk hS
 have B2 : Aside0 (Below W.heap.size W w2) := ⟨B1.out.trans (hK.below B1.out.size)⟩
 clear hS hK I1 B1
 go_upto_block 0 with (fail)
 go_cut [8, 9] (fun u8 u9 wx => ∃ (N : Int) (b : Bool), u8 = .int .i64 N ∧ u9 = .bool b ∧ Aside0 (Told a0 p N b) ∧ Aside0 (Below w2.heap.size w2 wx))
 case first =>
  go_wp2_with (fail)
  go_loopg [8, 9, 10] (p + 1) (fun kq v8 v9 v10 wr => ∃ (j : Nat) (N : Int) (b : Bool), v8 = .int .i64 N ∧ v9 = .bool b ∧ v10 = .int .i64 (j : Int) ∧ Aside0 (j + kq = p + 1 ∧ j ≤ p) ∧ Aside0 (Told a0 j N b) ∧ Aside0 (Below w2.heap.size w2 wr))
  case atStart => exact ⟨0, 0, false, rfl, rfl, rfl, ⟨by omega, by omega⟩, ⟨fun _ => ⟨by simp [sumS], rfl⟩⟩, ⟨Below.refl _ _⟩⟩
  case round =>
   obtain ⟨j, N, b, rfl, rfl, rfl, HJ, HT, HB⟩ := hrel
   cases gk with
   | zero => have := HJ.out; omega
   | succ k1 =>
    by_cases hj : j < p
    ·have hlt : ((j : Int) < (p : Int)) = True := eq_true (by omega)
     have hd : decide ((j : Int) < (p : Int)) = true := decide_eq_true (by omega)
     have hla : j < a0.length := by have := HP.out; omega
     obtain ⟨ad, e, h0⟩ := (Kd.reads_of_C (enc := Value.string) (d := ByteArray.empty) (Kd.C_below CA.out (B2.out.trans (HB.out.mono B2.out.size)))).at_ (j : Int) (by omega) (by omega)
     rw [Int.toNat_natCast] at h0
     obtain ⟨s, hs⟩ : ∃ s, s = rdOf ByteArray.empty a0 (j : Int) := ⟨_, rfl⟩
     rw [← hs] at h0
     subst e
     have hsm : s = a0[j] := by rw [hs]; simp [rdOf, hla]
     have HSM := Aside0.mk hsm
     have hsz : s.size ≤ 140737488351232 := by rw [hsm]; exact G0.out.2 _ (List.getElem_mem _)
     have hpp := P0.out
     clear hs hsm
     have NX : Aside0 (Told a0 (j + 1) (wrap64 (N + (s.size : Int))) (b || (decide (j + 1 < p) && decide (s.size < 64)))) := ⟨fun h12 => by
      obtain ⟨e1, e2⟩ := HT.out h12
      have h1 := sumS_big (l := a0.take j) (fun y hy => G0.out.2 y (List.mem_of_mem_take hy))
      rw [List.length_take] at h1
      have h2 : min j a0.length * 140737488351232 ≤ 12 * 140737488351232 := Nat.mul_le_mul_right _ (by omega)
      rw [e1, e2, smallU_step a0 hla, ← HSM.out, HP.out, List.take_succ_eq_append_getElem hla, sumS_snoc, ← HSM.out]
      refine ⟨?_, rfl⟩
      rw [IntWalk.wrap64_in _ (by omega)]
      omega⟩
     clear HT
     have BX : Aside0 (j < p) := ⟨hj⟩
     have fin : ∀ (b2 : Bool), (b || (decide (j + 1 < p) && decide (s.size < 64))) = b2 → Aside0 (Told a0 (j + 1) (wrap64 (N + (s.size : Int))) b2) := fun b2 h => ⟨by rw [← h]; exact NX.out⟩
     have FIN := Aside0.mk fin
     clear fin NX
     cases b with
     | true =>
      have NY := FIN.out true (by simp)
      clear FIN
      go_wp2_with (fail)
      go_roundg k1
      case measure => have := HJ.out; omega
      case rel => exact ⟨j + 1, _, _, rfl, rfl, by first | rfl | (rw [IntWalk.wrap64_in _ (by omega)]; rfl), ⟨by have := HJ.out; omega, by omega⟩, NY, HB⟩
     | false =>
      by_cases h1 : j + 1 < p
      ·have t1 : ((j : Int) < (p : Int) - 1) = True := eq_true (by omega)
       have t2 : decide ((j : Int) < (p : Int) - 1) = true := decide_eq_true (by omega)
       by_cases h2 : s.size < 64
       ·have t3 : ((s.size : Int) < 64) = True := eq_true (by omega)
        have t4 : decide ((s.size : Int) < 64) = true := decide_eq_true (by omega)
        have NY := FIN.out true (by simp [h1, h2])
        clear FIN
        go_wp2_with (fail)
        go_roundg k1
        case measure => have := HJ.out; omega
        case rel => exact ⟨j + 1, _, _, rfl, rfl, by first | rfl | (rw [IntWalk.wrap64_in _ (by omega)]; rfl), ⟨by have := HJ.out; omega, by omega⟩, NY, HB⟩
       ·have t3 : ((s.size : Int) < 64) = False := eq_false (by omega)
        have t4 : decide ((s.size : Int) < 64) = false := decide_eq_false (by omega)
        have NY := FIN.out false (by simp [h1, h2])
        clear FIN
        go_wp2_with (fail)
        go_roundg k1
        case measure => have := HJ.out; omega
        case rel => exact ⟨j + 1, _, _, rfl, rfl, by first | rfl | (rw [IntWalk.wrap64_in _ (by omega)]; rfl), ⟨by have := HJ.out; omega, by omega⟩, NY, HB⟩
      ·have t1 : ((j : Int) < (p : Int) - 1) = False := eq_false (by omega)
       have t2 : decide ((j : Int) < (p : Int) - 1) = false := decide_eq_false (by omega)
       have NY := FIN.out false (by simp [h1])
       clear FIN
       go_wp2_with (fail)
       go_roundg k1
       case measure => have := HJ.out; omega
       case rel => exact ⟨j + 1, _, _, rfl, rfl, by first | rfl | (rw [IntWalk.wrap64_in _ (by omega)]; rfl), ⟨by have := HJ.out; omega, by omega⟩, NY, HB⟩
    ·have hlt : ((j : Int) < (p : Int)) = False := eq_false (by omega)
     have hd : decide ((j : Int) < (p : Int)) = false := decide_eq_false (by omega)
     have HT' : Aside0 (Told a0 p N b) := ⟨by rw [show p = j by have := HJ.out; omega]; exact HT.out⟩
     go_wp2_with (fail)
     go_meet
     case rel => exact ⟨N, b, rfl, rfl, HT', HB⟩
 case rest =>
  obtain ⟨N, b, rfl, rfl, HT, HB⟩ := hcut
  have S3 := Aside0.mk (S2.out.below HB.out)
  have B3 := Aside0.mk (B2.out.trans (HB.out.mono B2.out.size))
  clear S2 B2 HB
  by_cases hN : 20000 < N
  ·have t1 : (20000 < N) = True := eq_true hN
   have t2 : decide (20000 < N) = true := decide_eq_true hN
   go_wp2_with (fail)
   go_ret
   exact ⟨rfl, B3.out⟩
  have n1 : (20000 < N) = False := eq_false hN
  have n2 : decide (20000 < N) = false := decide_eq_false hN
  by_cases h12 : 12 < p
  ·have t1 : (12 < (p : Int)) = True := eq_true (by omega)
   have t2 : decide (12 < (p : Int)) = true := decide_eq_true (by omega)
   go_wp2_with (fail)
   go_ret
   exact ⟨rfl, B3.out⟩
  have m1 : (12 < (p : Int)) = False := eq_false (by omega)
  have m2 : decide (12 < (p : Int)) = false := decide_eq_false (by omega)
  by_cases h0 : p = 0
  ·subst h0
   go_wp2_with (fail)
   go_ret
   exact ⟨rfl, B3.out⟩
  have o1 : ((p : Int) = 0) = False := eq_false (by omega)
  have o3 : (p = 0) = False := eq_false h0
  have o2 : ((p : Int) == 0) = false := beq_eq_false_iff_ne.2 (by omega)
  have PB : Aside0 (0 < p ∧ p ≤ 12) := ⟨by omega, by omega⟩
  have hT := HT.out (by have := HP.out; omega)
  rw [HP.out, List.take_length] at hT
  have SUM : Aside0 (sumS a0 ≤ 20000) := ⟨by omega⟩
  have SMA : Aside0 (b = smallU a0 a0.length) := ⟨hT.2⟩
  have ASM : Aside0 (AllSm a0) := ⟨fun s hs => Nat.le_trans (sumS_mem hs) SUM.out⟩
  have TS : Aside0 (∃ ok F n, TopS W x d a0 0 (10 * 0) wc (.slice none 0 0) ok F n) := ⟨_, _, _, TopS.start S3.out⟩
  clear hT HT S3 h0 h12 hN
  go_upto_block 2 with (fail)
  go_cut [11] (fun u11 wx => Aside0 (∃ ok F n, TopS W x d a0 p 400 wx u11 ok F n) ∧ Aside0 (Below W.heap.size W wx))
  case first =>
   go_wp2_with (fail)
   go_loopg [11, 12] 41 (fun kq v11 v12 wr => ∃ t : Nat, v12 = .int .i64 (t : Int) ∧ Aside0 (t + kq = 41 ∧ t ≤ 40) ∧ Aside0 (∃ ok F n, TopS W x d a0 t (10 * t) wr v11 ok F n) ∧ Aside0 (Below W.heap.size W wr))
   case atStart => exact ⟨0, rfl, ⟨by omega, by omega⟩, TS, B3⟩
   case round =>
    clear TS B3
    obtain ⟨t, rfl, HJ, HS, HB⟩ := hrel
    cases gk with
    | zero => have := HJ.out; omega
    | succ k1 =>
     have hmm := M0.out
     have hpp := PB.out.2
     have ht40 := HJ.out.2
     by_cases hm : t < m + p
     ·have t1 : ((t : Int) < (m : Int) + (p : Int)) = True := eq_true (by omega)
      have t2 : decide ((t : Int) < (m : Int) + (p : Int)) = true := decide_eq_true (by omega)
      by_cases h40 : t < 40
      ·have t3 : ((t : Int) < 40) = True := eq_true (by omega)
       have t4 : decide ((t : Int) < 40) = true := decide_eq_true (by omega)
       go_upto_if 103 with (fail)
       go_cut [13] (fun u13 wx => ∃ k : Nat, u13 = .int .i64 (k : Int) ∧ Aside0 (k < p ∧ ((t < p ∧ k + 1 + t = p) ∨ p ≤ t)) ∧ Aside0 (Below wr.heap.size wr wx))
       case first =>
        by_cases htp : t < p
        ·have t5 : ((t : Int) < (p : Int)) = True := eq_true (by omega)
         have t6 : decide ((t : Int) < (p : Int)) = true := decide_eq_true (by omega)
         go_wp2_with (fail)
         go_meet
         case rel => exact ⟨p - 1 - t, by rw [show ((p - 1 - t : Nat) : Int) = (p : Int) - 1 - (t : Int) by omega], ⟨by omega, Or.inl ⟨htp, by omega⟩⟩, ⟨Below.refl _ _⟩⟩
        ·have t5 : ((t : Int) < (p : Int)) = False := eq_false (by omega)
         have t6 : decide ((t : Int) < (p : Int)) = false := decide_eq_false (by omega)
         obtain ⟨ad, e, h0⟩ := (Kd.reads_of_C (enc := fun z => Value.int .i64 z) (d := (0 : Int)) (Kd.C_below CB.out HB.out)).at_ ((t : Int) - (p : Int)) (by omega) (by omega)
         generalize rdOf (0 : Int) a1 ((t : Int) - (p : Int)) = z at h0
         rw [show ((t : Int) - (p : Int)).toNat = t - p by omega] at h0
         subst e
         go_wp2_with (fail)
         obtain ⟨k, hk, hkp⟩ := place_mod z p PB.out.1 PB.out.2
         go_meet
         case rel => exact ⟨k, by rw [hk], ⟨hkp, Or.inr (by omega)⟩, ⟨Below.refl _ _⟩⟩
       case rest =>
        obtain ⟨k, rfl, HKP, HWR⟩ := hcut
        obtain ⟨ok, F, n, hS⟩ := HS.out
        have S1 := Aside0.mk (hS.below HWR.out)
        have B1 := Aside0.mk (HB.out.trans (HWR.out.mono HB.out.size))
        have HKA : Aside0 (k < a0.length ∧ ((t < a0.length ∧ k + 1 + t = a0.length) ∨ a0.length ≤ t)) := ⟨by have := HP.out; have := HKP.out; omega⟩
        have A12 : Aside0 (a0.length ≤ 12) := ⟨by have := HP.out; omega⟩
        have hk12 : k ≤ 12 := by have := HKP.out.1; omega
        have hkp : k < p := HKP.out.1
        have TS2 : Aside0 (t < m + p ∧ t < 40) := ⟨hm, h40⟩
        clear hS HWR HB HS t1 t2 t3 t4 hm h40
        obtain ⟨ad, e, h0⟩ := (Kd.reads_of_C (enc := Value.string) (d := ByteArray.empty) (Kd.C_below CA.out B1.out)).at_ (k : Int) (by omega) (by have := HKP.out.1; omega)
        rw [Int.toNat_natCast] at h0
        obtain ⟨s, hs⟩ : ∃ s, s = rdOf ByteArray.empty a0 (k : Int) := ⟨_, rfl⟩
        rw [← hs] at h0
        subst e
        have HSV : Aside0 (s = a0[k]'HKA.out.1) := ⟨by rw [hs]; simp [rdOf, HKA.out.1]⟩
        have HSZ : Aside0 (s.size ≤ 20000) := ⟨by rw [HSV.out]; exact ASM.out _ (List.getElem_mem _)⟩
        clear hs
        have PL := Aside0.mk (pieces_len HSZ.out)
        go_wp2_with (fail)
        refine (kept_calls S1.out.sto s 30000 (piecesS 4096 s) (oct_cut s (by have := HSZ.out; omega) _ (by have := HSZ.out; omega)) (pieces_in s) (by have := PL.out; omega) S1.out.no (by have := PL.out; omega)).mono ?_
        rintro e w5 ⟨v5, ok2, rfl, hsub, ⟨n5, hS5⟩, hR5, hK5, hno5⟩
        have K5 := Aside0.mk hK5
        have SB5 := Aside0.mk hsub
        have ST5 := Aside0.mk hS5
        have NO5 := Aside0.mk hno5
        have BW5 : Aside0 (Below W.heap.size W w5) := ⟨B1.out.trans ((hK5.mono (fun q _ hq => S1.out.sub q hq)).below B1.out.size)⟩
        have RA5 := Aside0.mk (S1.out.row5 hK5)
        obtain ⟨A5, c5, rfl, hl5, hC5⟩ := Kd.R_reads hR5
        have C5 : Aside0 (Kd.C k65 w5 A5 (pcsT s).length (pcsT s) ∧ (pcsT s).length ≤ c5) := ⟨hC5, hl5⟩
        obtain ⟨A11, c11, rfl, hl11, hC11⟩ := Kd.R_reads RA5.out
        have C11 : Aside0 (Kd.C k38 w5 A11 (partsL a0 t).length (partsL a0 t) ∧ (partsL a0 t).length ≤ c11) := ⟨hC11, hl11⟩
        have G5 := Aside0.mk hS5.env.tab
        have h5 : w5.cell? (ad.add k) = some (.string s) := by
         obtain ⟨ad5, e5, h0⟩ := (Kd.reads_of_C (enc := Value.string) (d := ByteArray.empty) (Kd.C_below CA.out BW5.out)).at_ (k : Int) (by omega) (by have := HKP.out.1; omega)
         rw [Int.toNat_natCast, show rdOf ByteArray.empty a0 (k : Int) = s by rw [HSV.out]; simp [rdOf, HKA.out.1]] at h0
         injection e5 with e5
         rw [e5]
         exact h0
        clear hK5 hsub hS5 hno5 hR5 hl5 hC5 hl11 hC11 h0
        rw [show (List.map pcS (piecesS 4096 s)).length = (pcsT s).length from rfl]
        go_wp2_with (fail)
        go_region_held3 (fun w' => w'.cell? (ad.add k) = some (.string s)) (go_keep)
         ((first
          | (go_at_call 9; (with_reducible refine (digest_Sum.calls s _ ?g1 ?g2).mono ?_); (case g2 => have := HSZ.out; omega); (case g1 => refine G5.out.below ?_; (repeat (first | exact Below.refl _ _ | (with_reducible refine below_drew1 ?_) | (with_reducible refine pw_below_drewN ?_ _)))); rintro e w7 ⟨rfl, hb7⟩; have B7 : Aside0 (Below w5.heap.size w5 w7) := ⟨by refine below_step ?_ hb7; (repeat (first | exact Below.refl _ _ | (with_reducible refine below_drew1 ?_) | (with_reducible refine pw_below_drewN ?_ _)))⟩; have q7 : w7.cell? (ad.add k) = some (.string s) := (hb7.cell (World.block_lt_of_cell? _ _ (by exact h5))).trans (by exact h5); clear hb7)
          | (go_at_call 8; (with_reducible refine (hexS_calls s _).mono ?_); rintro e w8 ⟨rfl, hb8⟩; have B8 : Aside0 (Below w5.heap.size w5 w8) := ⟨by refine below_step ?_ hb8; (repeat (first | exact B7.out | (with_reducible refine below_drew1 ?_) | (with_reducible refine pw_below_drewN ?_ _)))⟩; have q8 : w8.cell? (ad.add k) = some (.string s) := (hb8.cell (World.block_lt_of_cell? _ _ (by exact q7))).trans (by exact q7); clear hb8)
          | (go_at_call 7; (with_reducible refine (put_T ASM.out A12.out HKA.out.1 HKA.out.2 HSV.out ?n1 ?n2 ?r1 C11.out.2 ?r2 C5.out.2).mono ?_); (case n1 => first | exact (i64_w _).trans (IntWalk.wrap64_in _ (by omega)) | rfl); (case n2 => rfl); (case r1 => refine Kd.C_below C11.out.1 ?_; (repeat (first | exact B8.out | (with_reducible refine below_drew1 ?_) | (with_reducible refine pw_below_drewN ?_ _)))); (case r2 => refine Kd.C_below C5.out.1 ?_; (repeat (first | exact B8.out | (with_reducible refine below_drew1 ?_) | (with_reducible refine pw_below_drewN ?_ _)))); rintro e w9 ⟨v9, rfl, hR9, hb9⟩; have B9 : Aside0 (Below w5.heap.size w5 w9) := ⟨by refine below_step ?_ hb9; (repeat (first | exact B8.out | (with_reducible refine below_drew1 ?_) | (with_reducible refine pw_below_drewN ?_ _)))⟩; have R9 := Aside0.mk hR9; have LE9 : Aside0 (w5.heap.size ≤ w8.heap.size) := ⟨B8.out.size⟩; have q9 : w9.cell? (ad.add k) = some (.string s) := (hb9.cell (World.block_lt_of_cell? _ _ (by exact q8))).trans (by exact q8); clear hb9 hR9)))
        all_goals (
         have TS9 := Aside0.mk (S1.out.next ASM.out HKA.out.1 HKA.out.2 HSV.out SB5.out ST5.out NO5.out B9.out (by exact LE9.out) BW5.out.size R9.out)
         have BW9 := Aside0.mk (BW5.out.trans (B9.out.mono BW5.out.size))
         clear q7 q8 q9 B7 B8 B9 R9 LE9 h5
         go_wp2_with (fail)
         go_roundg k1
         case measure => have := HJ.out; omega
         case rel => exact ⟨t + 1, by first | rfl | (rw [IntWalk.wrap64_in _ (by omega)]; rfl), ⟨by have := HJ.out; omega, by have := TS2.out; omega⟩, ⟨_, _, _, TS9.out⟩, BW9⟩)
      ·have t3 : ((t : Int) < 40) = False := eq_false (by omega)
       have t4 : decide ((t : Int) < 40) = false := decide_eq_false (by omega)
       have HS' : Aside0 (∃ ok F n, TopS W x d a0 p 400 wr u11 ok F n) := ⟨by obtain ⟨ok, F, n, h⟩ := HS.out; have := h.stop (by have := HP.out; omega) ht40; rw [← HP.out] at this; exact ⟨ok, F, n, this⟩⟩
       go_wp2_with (fail)
       go_meet
       case rel => exact ⟨HS', HB⟩
     ·have t1 : ((t : Int) < (m : Int) + (p : Int)) = False := eq_false (by omega)
      have t2 : decide ((t : Int) < (m : Int) + (p : Int)) = false := decide_eq_false (by omega)
      have HS' : Aside0 (∃ ok F n, TopS W x d a0 p 400 wr u11 ok F n) := ⟨by obtain ⟨ok, F, n, h⟩ := HS.out; have := h.stop (by have := HP.out; omega) ht40; rw [← HP.out] at this; exact ⟨ok, F, n, this⟩⟩
      go_wp2_with (fail)
      go_meet
      case rel => exact ⟨HS', HB⟩
  case rest =>
   clear TS B3
   obtain ⟨HS, HB⟩ := hcut
   obtain ⟨ok, F, n, hS⟩ := HS.out
   obtain ⟨wd, hwd⟩ : ∃ wd, wd = wc := ⟨_, rfl⟩
   rw [← hwd] at hS HB ⊢
   clear hwd HS
   have S1 := Aside0.mk hS
   obtain ⟨A11, c11, rfl, hl11, hC11⟩ := Kd.R_reads hS.row
   have eL : partsL a0 p = partsR 1 a0 := by rw [HP.out]; exact partsL_all (Nat.le_refl _)
   rw [eL] at hl11 hC11 ⊢
   have C11 : Aside0 (Kd.C k38 wd A11 (partsR 1 a0).length (partsR 1 a0) ∧ (partsR 1 a0).length ≤ c11) := ⟨hC11, hl11⟩
   have GD := Aside0.mk hS.sto.env.tab
   have BD := Aside0.mk (Below.refl wd.heap.size wd)
   clear hS hl11 hC11 eL
   go_upto_block 4 with (fail)
   go_cut [18, 19] (fun u18 u19 wx => ∃ u : ByteArray, u19 = .string u ∧ Aside0 (u = joinS a0) ∧ Aside0 (k41.R 41 wx wd.heap.size (fun _ => True) u18 (picksR 1 a0)) ∧ Aside0 (Below wd.heap.size wd wx))
   case first =>
    go_wp2_with (fail)
    go_loopg [18, 19, 20] (p + 1) (fun kq v18 v19 v20 wr => ∃ (j : Nat) (u : ByteArray), v19 = .string u ∧ v20 = .int .i64 (j : Int) ∧ Aside0 (j + kq = p + 1 ∧ j ≤ p) ∧ Aside0 (u = joinS (a0.take j)) ∧ Aside0 (k41.R 41 wr wd.heap.size (fun _ => True) v18 (picksR 1 (a0.take j))) ∧ Aside0 (Below wd.heap.size wd wr))
    case atStart => exact ⟨0, _, rfl, rfl, ⟨by omega, by omega⟩, ⟨rfl⟩, ⟨Kd.R_nil _ _ _ _ _⟩, BD⟩
    case round =>
     clear BD
     obtain ⟨j, u, rfl, rfl, HJ, HU, HR, HBW⟩ := hrel
     cases gk with
     | zero => have := HJ.out; omega
     | succ k1 =>
      have hpp := PB.out.2
      by_cases hj : j < p
      ·have hlt : ((j : Int) < (p : Int)) = True := eq_true (by omega)
       have hd : decide ((j : Int) < (p : Int)) = true := decide_eq_true (by omega)
       have HJA : Aside0 (j < a0.length) := ⟨by have := HP.out; omega⟩
       have BW := Aside0.mk (HB.out.trans (HBW.out.mono HB.out.size))
       obtain ⟨ad, e, h0⟩ := (Kd.reads_of_C (enc := Value.string) (d := ByteArray.empty) (Kd.C_below CA.out BW.out)).at_ (j : Int) (by omega) (by omega)
       rw [Int.toNat_natCast] at h0
       obtain ⟨s, hs⟩ : ∃ s, s = rdOf ByteArray.empty a0 (j : Int) := ⟨_, rfl⟩
       rw [← hs] at h0
       subst e
       have HSV : Aside0 (s = a0[j]'HJA.out) := ⟨by rw [hs]; simp [rdOf, HJA.out]⟩
       have HSZ : Aside0 (s.size ≤ 20000) := ⟨by rw [HSV.out]; exact ASM.out _ (List.getElem_mem _)⟩
       clear hs
       go_wp2_with (fail)
       refine (digest_Sum.calls s _ (GD.out.below HBW.out) (by have := HSZ.out; omega)).mono ?_
       rintro e w3 ⟨rfl, hb⟩
       have B3 := Aside0.mk (below_step HBW.out hb)
       have R3 := Aside0.mk (Kd.R_below HR.out hb)
       clear hb h0
       go_wp2_with (fail)
       refine (hexS_calls s w3).mono ?_
       rintro e w5 ⟨rfl, hb⟩
       have B5 := Aside0.mk (below_step B3.out hb)
       have R5 := Aside0.mk (Kd.R_below R3.out hb)
       clear hb B3 R3
       have HW1 : Aside0 (IntKind.i64.wrap ((j : Int) + 1) = (j : Int) + 1) := ⟨(i64_w _).trans (IntWalk.wrap64_in _ (by omega))⟩
       go_wp2_with ((with_reducible refine gate_dst (N := 177) rfl ?_); refine Halt.out ?_)
       refine ⟨?_⟩
       refine Kd.event_run (v := .slice (some ⟨w5.heap.size, 0, none⟩) 1 1) (w1 := w5.alloc (.cells #[.int .i64 ((j : Int) + 1), .string (sumH s)] 41 (0, 0))) rfl ?hr1 ?_
       case hr1 => first | (go_simp; done) | (go_simp; rfl)
       obtain ⟨w6, hw6⟩ : ∃ w6, w6 = w5.alloc (.cells #[.int .i64 ((j : Int) + 1), .string (sumH s)] 41 (0, 0)) := ⟨_, rfl⟩
       rw [← hw6]
       obtain ⟨gx, hgx⟩ : ∃ gx, gx = w5.heap.size := ⟨_, rfl⟩
       rw [← hgx]
       have hb6 : Below w5.heap.size w5 w6 := by rw [hw6]; exact below_alloc (Below.refl _ _) _
       have hx6 : w6.heap[gx]? = some (.cells #[.int .i64 ((j : Int) + 1), .string (sumH s)] 41 (0, 0)) := by rw [hw6, hgx]; exact blk_new w5 _
       have R6 := Aside0.mk (Kd.R_below R5.out hb6)
       have B6 := Aside0.mk (below_step B5.out hb6)
       have HX : Aside0 (ReadsRow (k41.M w6 wd.heap.size (fun _ => False)) k41.sz w6 (some ⟨gx, 0, none⟩) 1 [(⟨(j : Int) + 1, sumH s⟩ : S41)]) := ⟨⟨rfl, by omega, fun _ => ⟨_, rfl, fun q y hq => by
        rcases q with _ | q
        ·simp only [List.getElem?_cons_zero, Option.some.injEq] at hq
         subst hq
         refine ⟨_, rfl, k41_mkM _ _ _ _, fun q u hu => ?_⟩
         rw [Nat.zero_mul, Nat.zero_add, Addr.add_lit, Nat.zero_add]
         simp only [World.cell?, hx6]
         rw [← Array.getElem?_toList]
         exact hu
        ·simp at hq⟩⟩⟩
       clear hw6 hgx hb6 hx6 R5 B5
       go_wp2_with ((with_reducible refine gate_dst (N := 178) rfl ?_); refine Halt.out ?_)
       refine ⟨?_⟩
       refine Kd.R_append_rows k41 (Rr := k41.M w6 wd.heap.size (fun _ => False)) (w0 := wd) wd.heap.size rfl (.tmp 167) (.tmp 177) 39 41 (.agg #[(.int .i64 0), (.string ⟨#[]⟩)]) 24 rfl Tryz.underlying39 info41 rfl (by decide) (by decide) u18 (picksR 1 (a0.take j)) [(⟨(j : Int) + 1, sumH s⟩ : S41)] (some ⟨gx, 0, none⟩) 1 1 (fun _ => True) (fun _ => False) ?e1 ?e2 R6.out HX.out (fun _ _ h => h) (fun _ h => h.elim) (fun _ _ => trivial) B6.out B6.out.size (by rw [picksR_len, List.length_take]; omega) ?_
       case e1 => rfl
       case e2 => rfl
       intro v7 w7 hR7 hB7 hg7 _
       have B7 := Aside0.mk hB7
       have ht : a0.take (j + 1) = a0.take j ++ [s] := by rw [List.take_succ_eq_append_getElem HJA.out, HSV.out]
       have R7 : Aside0 (k41.R 41 w7 wd.heap.size (fun _ => True) v7 (picksR 1 (a0.take (j + 1)))) := ⟨by
        rw [ht, picksR_snoc, List.length_take, show 1 + ((min j a0.length : Nat) : Int) = (j : Int) + 1 by have := HJA.out; omega]
        exact hR7⟩
       have HU7 : Aside0 (u ++ s = joinS (a0.take (j + 1))) := ⟨by rw [ht, joinS_snoc, HU.out]⟩
       have h7 : w7.cell? (ad.add j) = some (.string s) := by
        obtain ⟨ad5, e5, h0⟩ := (Kd.reads_of_C (enc := Value.string) (d := ByteArray.empty) (Kd.C_below CA.out (HB.out.trans (B7.out.mono HB.out.size)))).at_ (j : Int) (by omega) (by omega)
        rw [Int.toNat_natCast, show rdOf ByteArray.empty a0 (j : Int) = s by rw [HSV.out]; simp [rdOf, HJA.out]] at h0
        injection e5 with e5
        rw [e5]
        exact h0
       have hcat : u.size + s.size ≤ 40000 := by
        have h1 := HSZ.out
        have h2 := sumS_take a0 j
        have h3 := SUM.out
        rw [HU.out, joinS_size]
        omega
       have hcat2 : (u.size : Int) + (s.size : Int) ≤ 9223372036854775807 := by omega
       have hcat3 : u.size + s.size ≤ 9223372036854775807 := by omega
       clear hR7 hB7 hg7 ht R6 B6 HX HW1 HR HBW HU BW
       go_wp2_with (fail)
       go_roundg k1
       case measure => have := HJ.out; omega
       case rel => exact ⟨j + 1, _, rfl, by first | rfl | (rw [IntWalk.wrap64_in _ (by omega)]; rfl), ⟨by have := HJ.out; omega, by omega⟩, HU7, R7, B7⟩
      ·have hlt : ((j : Int) < (p : Int)) = False := eq_false (by omega)
       have hd : decide ((j : Int) < (p : Int)) = false := decide_eq_false (by omega)
       have ht : a0.take j = a0 := List.take_of_length_le (by have := HP.out; omega)
       have HU' : Aside0 (u = joinS a0) := ⟨by rw [HU.out, ht]⟩
       have HR' : Aside0 (k41.R 41 wr wd.heap.size (fun _ => True) u18 (picksR 1 a0)) := ⟨by have := HR.out; rw [ht] at this; exact this⟩
       clear ht
       go_wp2_with (fail)
       go_meet
       case rel => exact ⟨_, rfl, HU', HR', HBW⟩
   case rest =>
    clear BD
    obtain ⟨u, rfl, HU, HR, HBW⟩ := hcut
    obtain ⟨wf, hwf⟩ : ∃ wf, wf = wc := ⟨_, rfl⟩
    rw [← hwf] at HR HBW ⊢
    clear hwf
    obtain ⟨A18, c18, rfl, hl18, hC18⟩ := Kd.R_reads HR.out
    have C18 : Aside0 (Kd.C k41 wf A18 (picksR 1 a0).length (picksR 1 a0) ∧ (picksR 1 a0).length ≤ c18) := ⟨hC18, hl18⟩
    clear hl18 hC18 HR
    have USZ : Aside0 (u.size = sumS a0) := ⟨by rw [HU.out, joinS_size]⟩
    have husz : u.size ≤ 20000 := by rw [USZ.out]; exact SUM.out
    by_cases hsm : b = true
    ·have JF : Aside0 (joinR a0 = (0, false, 0, ⟨#[]⟩, [], 141)) := ⟨by unfold joinR; rw [if_pos (by rw [← SMA.out]; exact hsm)]⟩
     clear SMA
     subst hsm
     go_wp2_with (fail)
     refine (joinT_calls ASM.out (by have := HP.out; have := PB.out.1; omega) (by have := HP.out; have := PB.out.2; omega) SUM.out JF.out A11 c11 A18 c18 wf (GD.out.below HBW.out) (Kd.C_below C11.out.1 HBW.out) C11.out.2 C18.out.1 C18.out.2).mono ?_
     rintro e w3 ⟨v4, rfl, hR4, hb⟩
     have B3 := Aside0.mk (below_step HBW.out hb)
     obtain ⟨A4, c4, rfl, -, -⟩ := Kd.R_reads hR4
     clear hb hR4 C11 C18
     go_wp2_with ((with_reducible refine gate_dst (N := 21) rfl ?_); refine box_event ?hg (N := 21) ?hd (cs := #[.int .i64 0, .bool false, .int .i64 0, .string ⟨#[]⟩, .slice none 0 0]) (t := 43) ?hr ?_; (case hd => rfl); (case hg => rfl); (case hr => first | (go_simp; done) | (go_simp; rfl)); intro gf hgf w7 hbox hb7; have HGF := Aside0.mk hgf; clear hgf; refine Halt.out ?_)
     refine ⟨?_⟩
     refine store4 rfl rfl 43 43 _ _ rfl (.agg #[.int .i64 0, .bool false, .int .i64 0, .string ⟨#[]⟩, .slice A4 ([] : List S65).length c4]) [.int .i64 0, .bool false, .int .i64 0, .string ⟨#[]⟩, .slice A4 ([] : List S65).length c4] rfl rfl rfl (by kernel_rfl) (one5 _ _ _ _ _ rfl rfl rfl rfl rfl) hbox rfl ?_
     intro w8 hw8 hg8
     have B8 : Aside0 (Below w3.heap.size w3 w8) := ⟨hb7.grown hg8 hb7.size (fun k hk => by injection hk with hk; have := HGF.out; omega)⟩
     have BW8 : Aside0 (Below W.heap.size W w8) := ⟨HB.out.trans ((B3.out.trans (B8.out.mono B3.out.size)).mono HB.out.size)⟩
     clear hw8 hg8 hbox hb7
     go_wp2_with (fail)
     go_ret
     exact ⟨rfl, BW8.out⟩
    ·have hsm2 : b = false := by simpa using hsm
     have JF : Aside0 (joinR a0 = (0, false, (u.size : Int), joinH a0, a0.flatMap pcsT, 0)) := ⟨by unfold joinR; rw [if_neg (by rw [← SMA.out]; exact hsm), USZ.out]⟩
     obtain ⟨Q, hQ⟩ : ∃ Q, Q = a0.flatMap pcsT := ⟨_, rfl⟩
     rw [← hQ] at JF
     have HQ := Aside0.mk hQ
     clear hQ
     clear SMA hsm
     subst hsm2
     go_wp2_with (fail)
     refine (joinT_calls ASM.out (by have := HP.out; have := PB.out.1; omega) (by have := HP.out; have := PB.out.2; omega) SUM.out JF.out A11 c11 A18 c18 wf (GD.out.below HBW.out) (Kd.C_below C11.out.1 HBW.out) C11.out.2 C18.out.1 C18.out.2).mono ?_
     rintro e w3 ⟨v4, rfl, hR4, hb⟩
     have B3 := Aside0.mk (below_step HBW.out hb)
     have R3 := Aside0.mk hR4
     obtain ⟨A4, c4, rfl, hl4, hC4⟩ := Kd.R_reads hR4
     have C4 := Aside0.mk hC4
     clear hb hR4 hl4 hC4 C11 C18
     go_wp2_with ((with_reducible refine gate_dst (N := 21) rfl ?_); refine box_event ?hg (N := 21) ?hd (cs := #[.int .i64 0, .bool false, .int .i64 0, .string ⟨#[]⟩, .slice none 0 0]) (t := 43) ?hr ?_; (case hd => rfl); (case hg => rfl); (case hr => first | (go_simp; done) | (go_simp; rfl)); intro gf hgf w7 hbox hb7; have HGF := Aside0.mk hgf; clear hgf; refine Halt.out ?_)
     refine ⟨?_⟩
     refine store4 rfl rfl 43 43 _ _ rfl (.agg #[.int .i64 0, .bool false, .int .i64 (u.size : Int), .string (joinH a0), .slice A4 Q.length c4]) [.int .i64 0, .bool false, .int .i64 (u.size : Int), .string (joinH a0), .slice A4 Q.length c4] rfl rfl rfl (by kernel_rfl) (one5 _ _ _ _ _ rfl rfl rfl rfl rfl) hbox rfl ?_
     intro w8 hw8 hg8
     have hb38 : Below w3.heap.size w3 w8 := hb7.grown hg8 hb7.size (fun k hk => by injection hk with hk; have := HGF.out; omega)
     have B8 : Aside0 (Below wd.heap.size wd w8) := ⟨B3.out.trans (hb38.mono B3.out.size)⟩
     have BW8 : Aside0 (Below W.heap.size W w8) := ⟨HB.out.trans (B8.out.mono HB.out.size)⟩
     have C8 : Aside0 (Kd.C k65 w8 A4 Q.length Q) := ⟨Kd.C_below C4.out hb38⟩
     have S8 := Aside0.mk (S1.out.sto.below B8.out)
     have FIA := Aside0.mk S1.out.fi
     have z2 : w8.cell? ⟨gf, 2, none⟩ = some (.int .i64 (u.size : Int)) := (blk_cell hw8 2).trans rfl
     have z4 : w8.cell? ⟨gf, 4, none⟩ = some (.slice A4 Q.length c4) := (blk_cell hw8 4).trans rfl
     have HW8 := Aside0.mk hw8
     have EQ : Aside0 (Q = (a0.flatMap (piecesS 4096)).map pcS) := ⟨by rw [HQ.out, List.map_flatMap]; rfl⟩
     have HASF : Aside0 (∀ b ∈ a0.flatMap (piecesS 4096), hasX F (idS b) = true) := ⟨fun b hb => by
      obtain ⟨s, hs, hb⟩ := List.mem_flatMap.1 hb
      obtain ⟨k, hk, rfl⟩ := List.getElem_of_mem hs
      exact S1.out.has k hk (by have := HP.out; omega) b hb⟩
     have QL : Aside0 (Q.length ≤ 60) := ⟨by have := pcsT_len ASM.out; rw [← HQ.out] at this; have := HP.out; have := PB.out.2; omega⟩
     have ODD : Aside0 (readF F Q ⟨#[]⟩ = (u, true) ∨ stowagetop_odd.f 50000 a0 = some true) := ⟨by
      rw [EQ.out, HU.out]
      rcases read_or_odd FIA.out HASF.out with h | h
      ·exact Or.inl h
      ·right
       rw [odd_eq ASM.out (by have := HP.out; have := PB.out.2; omega) (by decide), h]⟩
     have RD := readF_calls S8.out A4 c4 Q C8.out (fun q hq => by
      rw [EQ.out] at hq
      obtain ⟨b, _, rfl⟩ := List.mem_map.1 hq
      show (idS b).size ≤ _
      rw [idS_size]; decide) (by have := QL.out; omega) (fun q hq => by
      rw [EQ.out] at hq
      obtain ⟨b, hb, rfl⟩ := List.mem_map.1 hq
      obtain ⟨t, ht, _, e⟩ := FIA.out.got (idS b) (HASF.out b hb)
      show (getX F (idS b)).1.size ≤ _
      rw [e]
      obtain ⟨s, _, ht⟩ := List.mem_flatMap.1 ht
      have := (pieces_in s t ht).2
      show t.size ≤ _
      omega)
     generalize readF F Q ⟨#[]⟩ = rd at ODD RD
     obtain ⟨t, tk⟩ := rd
     have RDD := Aside0.mk RD
     clear RD hw8 hg8 hbox hb7 hb38 B3 R3 C4 HASF FIA
     go_wp2_with (fail)
     refine RDD.out.mono ?_
     rintro e w9 ⟨rfl, hb⟩
     have B9 := Aside0.mk (BW8.out.trans (hb.mono BW8.out.size))
     have y2 : w9.cell? ⟨gf, 2, none⟩ = some (.int .i64 (u.size : Int)) := (hb.cell (World.block_lt_of_cell? _ _ z2)).trans z2
     clear hb z2 z4 HW8 RDD
     cases tk with
     | false =>
      have OT : stowagetop_odd.f 50000 a0 = some true := by
       rcases ODD.out with h | h
       ·have h2 := congrArg Prod.snd h; cases h2
       ·exact h
      have OT := Aside0.mk OT
      clear ODD
      go_wp2_with (fail)
      refine (odd_p HP.out (Kd.C_below CA.out B9.out) L0.out OT.out).mono ?_
      rintro e w10 ⟨rfl, hb⟩
      have B10 := Aside0.mk (below_step B9.out hb)
      have y3 : w10.cell? ⟨gf, 2, none⟩ = some (.int .i64 (u.size : Int)) := (hb.cell (World.block_lt_of_cell? _ _ y2)).trans y2
      clear hb y2
      go_wp2_with (fail)
      go_ret
      exact ⟨rfl, B10.out⟩
     | true =>
      by_cases htu : t = u
      ·subst htu
       clear ODD
       go_wp2_with (fail)
       go_ret
       exact ⟨rfl, B9.out⟩
      ·have OT : stowagetop_odd.f 50000 a0 = some true := by
        rcases ODD.out with h | h
        ·exact absurd (congrArg Prod.fst h) htu
        ·exact h
       have u1 : (t.toList == u.toList) = false := beq_eq_false_iff_ne.2 (fun h => htu (eq_of_toList h))
       have u2 : (t.toList = u.toList) = False := eq_false (fun h => htu (eq_of_toList h))
       have u3 : (t = u) = False := eq_false htu
       have OT := Aside0.mk OT
       clear ODD
       go_wp2_with (fail)
       refine (odd_p HP.out (Kd.C_below CA.out B9.out) L0.out OT.out).mono ?_
       rintro e w10 ⟨rfl, hb⟩
       have B10 := Aside0.mk (below_step B9.out hb)
       have y3 : w10.cell? ⟨gf, 2, none⟩ = some (.int .i64 (u.size : Int)) := (hb.cell (World.block_lt_of_cell? _ _ y2)).trans y2
       clear hb y2
       go_wp2_with (fail)
       go_ret
       exact ⟨rfl, B10.out⟩
end Go.Proofs.YtpgbkeaaklglkaaGreatDoor.Q