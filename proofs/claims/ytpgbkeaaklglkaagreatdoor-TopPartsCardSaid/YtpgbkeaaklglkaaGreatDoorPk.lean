
/- What is kept in a store; what is read again. -/
import Derived.Test.YtpgbkeaaklglkaaGreatDoorX2
import Derived.Test.YtpgbkeaaklglkaaGreatDoorQ7
namespace Go.Proofs.YtpgbkeaaklglkaaGreatDoor.Q
open Go.Maps Go.WideShapes Go.WideMaps Go.RowKit Go.Proofs.YtpgbkeaaklglkaaGreatDoorW.PrintWords Go.Proofs.YtpgbkeaaklglkaaGreatDoorW.PrintLast Go.Proofs.YtpgbkeaaklglkaaGreatDoorW.PrintMore
set_option linter.unusedVariables false
set_option linter.unusedSimpArgs false
set_option maxHeartbeats 10000000
set_option maxRecDepth 100000
/-! ### rows of one's own beside a store -/
theorem Sto.wall {w w' : World} {x d : Nat} {ok : Nat → Prop} {i : Nat} {l : Fs} {n : Int} (h : Sto w x d ok i l n) (hsz : w.heap.size ≤ w'.heap.size) (hm : ∀ k, ok k → k < w.heap.size → w'.heap[k]? = w.heap[k]?) (h0 : w'.heap[0]? = w.heap[0]?) (hx : w'.heap[x]? = w.heap[x]?) :
  Sto w' x d (fun k => (ok k ∧ k < w.heap.size) ∨ w'.heap.size ≤ k) i l n := by
 have h1 := h.env.lt
 refine ⟨⟨h.env.tab.keep h0, ?_, fun k hk => Or.inr hk, hx.trans h.env.blk, ?_⟩, (h.disk.bound.step (fun k hk hlt => hm k hk.1 hlt)).mono (fun k hk => Or.inl hk), h.good, h.sml⟩
 ·rintro (⟨h3, _⟩ | h3)
  ·exact h.env.no0 h3
  ·omega
 ·rintro (⟨h3, _⟩ | h3)
  ·exact h.env.nox h3
  ·omega
theorem putX_new {l : Fs} (h : hasF l nEN = false) (s : ByteArray) : hasF (putX l s) nEN = false := by
 unfold putX
 split
 ·exact h
 ·rw [← Bool.not_eq_true, hasF_iff]
  rintro ⟨p, hp, e⟩
  rcases mem_putF.1 hp with rfl | ⟨hp, _⟩
  ·exact e_new (idS_may s) e
  ·have : hasF l nEN = true := hasF_iff.2 ⟨p, hp, e⟩
   rw [h] at this
   cases this
noncomputable def pcS (b : ByteArray) : S65 := ⟨idS b, (b.size : Int)⟩
set_option maxHeartbeats 10000000 in
theorem kept_calls {w : World} {x d : Nat} {ok : Nat → Prop} {i : Nat} {l : Fs} {n : Int} (h : Sto w x d ok i l n) (s : ByteArray) (k : Nat) (p : List ByteArray) (hcut : extent_Cut.f k s = some p) (hp : ∀ b ∈ p, 0 < b.size ∧ b.size ≤ 4096) (hlen : p.length ≤ 400) (hno : hasF l nEN = false) (hi : i + 2 * p.length ≤ 800) :
  Calls Tryz.prog 6 #[.pointer (some ⟨x, 0, none⟩), .string s] w fun e w' => ∃ v ok', e = .returned (.tuple #[v, .bool true]) ∧ (∀ q, ok' q → ok q) ∧ (∃ n', Sto w' x d ok' (i + 2 * p.length) (p.foldl putX l) n') ∧ Kd.R k65 65 w' w.heap.size (fun q => w.heap.size ≤ q ∧ ¬ ok' q) v (p.map pcS) ∧ Kp ok w w' ∧ hasF (p.foldl putX l) nEN = false := by
 have HS := Aside0.mk h
 have HCUT := Aside0.mk hcut
 have HP := Aside0.mk hp
 have HL := Aside0.mk hlen
 have HI := Aside0.mk hi
 have HN := Aside0.mk hno
 have X0 := Aside0.mk h.env.lt
 have T0 := Aside0.mk h.env.tab.pos
 have NW := Aside0.mk h.env.new
 clear h hcut hp hlen hno hi
 go_enter Tryz.func6, Tryz.ntmps6
 go_wp2_with (fail)
 refine (extent_Cut.calls k s p w HCUT.out).mono ?_
 rintro e w1 ⟨v, rfl, hR, hb⟩
 obtain ⟨A1, c1, rfl⟩ := Kd.R_slice hR
 have S1 : Aside0 (∃ ok', (∀ q, ok' q → ok q) ∧ (∃ n', Sto w1 x d ok' (i + 2 * 0) ((p.take 0).foldl putX l) n') ∧ hasF ((p.take 0).foldl putX l) nEN = false ∧ Kd.R Kd.string 9 w1 w.heap.size (fun q => w.heap.size ≤ q ∧ ¬ ok' q) (.slice A1 p.length c1) p ∧ Kd.R k65 65 w1 w.heap.size (fun q => w.heap.size ≤ q ∧ ¬ ok' q) (.slice none 0 0) ((p.take 0).map pcS)) :=
  ⟨_, fun q hq => hq.elim (fun h => h.1) (fun h => NW.out q (Nat.le_trans hb.size h)), ⟨n, HS.out.wall hb.size (fun q _ hlt => hb.block q hlt) (hb.block 0 T0.out) (hb.block x X0.out)⟩, HN.out,
   Kd.R_mono (Kd.R_bound hR) (fun q hq => ⟨hq.2.1, fun h => h.elim (fun h => by have := h.2; have := hq.2.1; omega) (fun h => by have := hq.2.2.1; omega)⟩), Kd.R_nil _ _ _ _ _⟩
 have K1 : Aside0 (Kp ok w w1) := ⟨Kp.of_below hb⟩
 clear hR hb HS
 go_wp2_with (fail)
 go_loopg [6, 8] (p.length + 1) (fun kq v6 v8 wr => ∃ (j : Nat), v8 = .int .i64 (j : Int) ∧ Aside0 (j + kq = p.length + 1 ∧ j ≤ p.length) ∧ Aside0 (∃ ok', (∀ q, ok' q → ok q) ∧ (∃ n', Sto wr x d ok' (i + 2 * j) ((p.take j).foldl putX l) n') ∧ hasF ((p.take j).foldl putX l) nEN = false ∧ Kd.R Kd.string 9 wr w.heap.size (fun q => w.heap.size ≤ q ∧ ¬ ok' q) (.slice A1 p.length c1) p ∧ Kd.R k65 65 wr w.heap.size (fun q => w.heap.size ≤ q ∧ ¬ ok' q) v6 ((p.take j).map pcS)) ∧ Aside0 (Kp ok w wr))
 case atStart => exact ⟨0, rfl, ⟨by omega, by omega⟩, S1, K1⟩
 case round =>
  clear S1 K1
  obtain ⟨j, rfl, HJ, HR, HK⟩ := hrel
  cases gk with
  | zero => have := HJ.out; omega
  | succ k1 =>
   obtain ⟨ok', hsub, ⟨n', hS⟩, hno, hC, hO⟩ := HR.out
   by_cases hj : j < p.length
   ·have hlt : ((j : Int) < (p.length : Int)) = True := eq_true (by omega)
    have hd : decide ((j : Int) < (p.length : Int)) = true := decide_eq_true (by omega)
    obtain ⟨ad, e, h0⟩ := (Kd.reads_of_C (enc := Value.string) (d := ByteArray.empty) (Kd.R_reads' hC).2.2).at_ (j : Int) (by omega) (by omega)
    rw [Int.toNat_natCast] at h0
    obtain ⟨b, hb⟩ : ∃ b, b = rdOf ByteArray.empty p (j : Int) := ⟨_, rfl⟩
    rw [← hb] at h0
    subst e
    have hbm : b = p[j] := by rw [hb]; simp [rdOf, hj]
    have HB := Aside0.mk (And.intro hbm (HP.out b (by rw [hbm]; exact List.getElem_mem _)))
    have S2 := Aside0.mk hS
    have NO2 := Aside0.mk hno
    have C2 := Aside0.mk hC
    have O2 := Aside0.mk hO
    have SU := Aside0.mk hsub
    clear hS hno hC hO hsub HR hb hbm
    go_wp2_with (fail)
    refine (Put_calls S2.out b NO2.out (by have := HI.out; omega)).mono ?_
    rintro e w5 ⟨rfl, ⟨n5, hS⟩, hK⟩
    have hE : putE b = 0 := by have h := HB.out.2; unfold putE; rw [if_neg (by omega), if_neg (by omega)]
    have hID : putI b = idS b := by have h := HB.out.2; unfold putI; rw [if_neg (by omega)]
    rw [hE, hID]
    have C5 := Aside0.mk (Kd.R_step C2.out (fun q hq hlt => hK.block q hlt hq.2))
    have O5 := Aside0.mk (Kd.R_step O2.out (fun q hq hlt => hK.block q hlt hq.2))
    have K5 := Aside0.mk (HK.out.trans (hK.mono (fun q _ h => SU.out q h)))
    have S5 := Aside0.mk hS
    have h5 : w5.cell? (ad.add j) = some (.string b) := by
     obtain ⟨ad5, e5, h0⟩ := (Kd.reads_of_C (enc := Value.string) (d := ByteArray.empty) (Kd.R_reads' C5.out).2.2).at_ (j : Int) (by omega) (by omega)
     rw [Int.toNat_natCast, show rdOf ByteArray.empty p (j : Int) = b by rw [HB.out.1]; simp [rdOf, hj]] at h0
     injection e5 with e5
     rw [e5]
     exact h0
    clear hS hK hE hID h0 S2 C2 O2 HK
    go_wp2_with ((with_reducible refine gate_dst (N := 38) rfl ?_); refine Halt.out ?_)
    refine ⟨?_⟩
    refine Kd.event_run (v := .slice (some ⟨w5.heap.size, 0, none⟩) 1 1) (w1 := w5.alloc (.cells #[.string (idS b), .int .i64 (b.size : Int)] 65 (0, 0))) rfl ?hr1 ?_
    case hr1 => first | (go_simp; done) | (go_simp; rfl)
    obtain ⟨w6, hw6⟩ : ∃ w6, w6 = w5.alloc (.cells #[.string (idS b), .int .i64 (b.size : Int)] 65 (0, 0)) := ⟨_, rfl⟩
    rw [← hw6]
    obtain ⟨gx, hgx⟩ : ∃ gx, gx = w5.heap.size := ⟨_, rfl⟩
    rw [← hgx]
    have hb6 : Below w5.heap.size w5 w6 := by rw [hw6]; exact below_alloc (Below.refl _ _) _
    have hx6 : w6.heap[gx]? = some (.cells #[.string (idS b), .int .i64 (b.size : Int)] 65 (0, 0)) := by rw [hw6, hgx]; exact blk_new w5 _
    have C6 := Aside0.mk (Kd.R_below C5.out hb6)
    have O6 := Aside0.mk (Kd.R_mono (ok' := fun q => w.heap.size ≤ q ∧ (¬ ok' q ∨ w6.heap.size ≤ q)) (Kd.R_below O5.out hb6) (fun q hq => ⟨hq.1, .inl hq.2⟩))
    have OB := Aside0.mk (O5.out.1)
    have OT := Aside0.mk (Kd.R_typed (Kd.R_below O5.out hb6))
    have S6 := Aside0.mk (S5.out.below hb6)
    have K6 := Aside0.mk (K5.out.trans (Kp.of_below hb6))
    have HX : Aside0 (ReadsRow (k65.M w6 w.heap.size (fun _ => False)) k65.sz w6 (some ⟨gx, 0, none⟩) 1 [pcS b]) := ⟨⟨rfl, by omega, fun _ => ⟨_, rfl, fun q y hq => by
     rcases q with _ | q
     ·simp only [List.getElem?_cons_zero, Option.some.injEq] at hq
      subst hq
      refine ⟨_, rfl, k65_mkM _ _ _ _, fun q u hu => ?_⟩
      rw [Nat.zero_mul, Nat.zero_add, Addr.add_lit, Nat.zero_add]
      simp only [World.cell?, hx6]
      rw [← Array.getElem?_toList]
      exact hu
     ·simp at hq⟩⟩⟩
    clear hw6 hgx hb6 hx6 h5 C5 O5 S5 K5
    go_wp2_with ((with_reducible refine gate_dst (N := 39) rfl ?_); refine Halt.out ?_)
    refine ⟨?_⟩
    refine Kd.R_append_rows k65 (Rr := k65.M w6 w.heap.size (fun _ => False)) (w0 := w6) w.heap.size rfl (.tmp 30) (.tmp 38) 31 65 (.agg #[(.string ⟨#[]⟩), (.int .i64 0)]) 24 rfl Tryz.underlying31 info65 rfl (by decide) (by decide) u6 ((p.take j).map pcS) [pcS b] (some ⟨gx, 0, none⟩) 1 1 (fun q => w.heap.size ≤ q ∧ (¬ ok' q ∨ w6.heap.size ≤ q)) (fun _ => False) ?e1 ?e2 O6.out HX.out (fun _ _ h => h) (fun _ h => h.elim) (fun q hq => ⟨Nat.le_trans K6.out.size hq, .inr hq⟩) (Below.refl _ _) K6.out.size (by have := HL.out; simp only [List.length_map, List.length_take]; omega) ?_
    case e1 => rfl
    case e2 => rfl
    intro v7 w7 hR7 hB7 hg7 _
    have hsz7 := hg7.size
    have ho7 : ∀ q, u6.ownBlock = some q → w.heap.size ≤ q ∧ ¬ ok' q := OB.out
    have S7 : Aside0 (∃ ok2, (∀ q, ok2 q → ok q) ∧ (∃ n', Sto w7 x d ok2 (i + 2 * (j + 1)) ((p.take (j + 1)).foldl putX l) n') ∧ hasF ((p.take (j + 1)).foldl putX l) nEN = false ∧ Kd.R Kd.string 9 w7 w.heap.size (fun q => w.heap.size ≤ q ∧ ¬ ok2 q) (.slice (some ad) p.length c1) p ∧ Kd.R k65 65 w7 w.heap.size (fun q => w.heap.size ≤ q ∧ ¬ ok2 q) v7 ((p.take (j + 1)).map pcS)) := by
     have ht : p.take (j + 1) = p.take j ++ [b] := by rw [List.take_add_one, List.getElem?_eq_getElem hj, HB.out.1]; rfl
     rw [ht, List.foldl_append, List.map_append]
     refine ⟨_, fun q hq => hq.elim (fun h => SU.out q h.1) (fun h => NW.out q (Nat.le_trans (Nat.le_trans K6.out.size hsz7) h)), ⟨n5, S6.out.wall hsz7 (fun q hq hlt => hg7.block q hlt (fun he => (ho7 q he.symm).2 hq)) (hg7.block 0 (Nat.lt_of_lt_of_le T0.out K6.out.size) (fun he => by have := (ho7 0 he.symm).1; have := T0.out; omega)) (hg7.block x (Nat.lt_of_lt_of_le X0.out K6.out.size) (fun he => by have := (ho7 x he.symm).1; have := X0.out; omega))⟩, putX_new NO2.out _, ?_, ?_⟩
     ·refine Kd.R_mono (Kd.R_bound (Kd.R_over' C6.out OT.out (by decide) hg7)) (fun q hq => ⟨hq.1.1, fun h => h.elim (fun h => hq.1.2 h.1) (fun h => by have := hq.2.2.1; omega)⟩)
     ·refine Kd.R_mono (Kd.R_bound hR7) (fun q hq => ⟨hq.1.1, fun h => h.elim (fun h => hq.1.2.elim (fun h2 => h2 h.1) (fun h2 => by have := h.2; omega)) (fun h => by have := hq.2.2.1; omega)⟩)
    have K7 : Aside0 (Kp ok w w7) := ⟨K6.out.trans (Kp.of_grown hg7 (fun q hq => NW.out q (ho7 q hq).1))⟩
    clear hR7 hB7 hg7 hsz7 ho7 S6 C6 O6 K6 OB OT HX
    go_wp2_with (fail)
    go_roundg k1
    case measure => have := HJ.out; omega
    case rel => exact ⟨j + 1, (by rw [IntWalk.wrap64_in _ (by have := HL.out; omega)]; rfl), ⟨by have := HJ.out; omega, by omega⟩, S7, K7⟩
   ·have hlt : ((j : Int) < (p.length : Int)) = False := eq_false (by omega)
    have hd : decide ((j : Int) < (p.length : Int)) = false := decide_eq_false (by omega)
    have hje : j = p.length := by have := HJ.out; omega
    subst hje
    rw [List.take_length] at hS hno hO
    go_wp2_with (fail)
    go_ret2
    exact ⟨_, ok', rfl, hsub, ⟨n', hS⟩, hO, HK.out, hno⟩
/-! ### what is read again -/
noncomputable def readF (l : Fs) : List S65 → ByteArray → ByteArray × Bool
 | [], a => (a, true)
 | q :: r, a => if (getX l q.f0).2 ≠ 0 ∨ (((getX l q.f0).1.size : Nat) : Int) ≠ q.f1 then (⟨#[]⟩, false) else readF l r (a ++ (getX l q.f0).1)
set_option maxHeartbeats 10000000 in
theorem readF_calls {w : World} {x d : Nat} {ok : Nat → Prop} {i : Nat} {l : Fs} {n : Int} (h : Sto w x d ok i l n) (A : Option Addr) (c : Nat) (qs : List S65) (hr : Kd.C k65 w A qs.length qs) (hq : ∀ q ∈ qs, q.f0.size ≤ 140737488351232) (hl : qs.length ≤ 1000) (hz : ∀ q ∈ qs, (getX l q.f0).1.size ≤ 1000000) :
  Calls Tryz.prog 11 #[.pointer (some ⟨x, 0, none⟩), .slice A qs.length c] w fun e w' => e = .returned (.tuple #[.string (readF l qs ⟨#[]⟩).1, .bool (readF l qs ⟨#[]⟩).2]) ∧ Below w.heap.size w w' := by
 have HS := Aside0.mk h
 have HR := Aside0.mk hr
 have HQ := Aside0.mk hq
 have HL := Aside0.mk hl
 have HZ := Aside0.mk hz
 obtain ⟨r, hr0⟩ : ∃ r, r = readF l qs ⟨#[]⟩ := ⟨_, rfl⟩
 have RR := Aside0.mk hr0
 rw [← hr0]
 have HB := Aside0.mk (Below.refl w.heap.size w)
 clear h hr hq hl hr0 hz
 go_enter Tryz.func11, Tryz.ntmps11
 go_wp2_with (fail)
 go_loopg [6, 7] (qs.length + 1) (fun kq v6 v7 wr => ∃ (j : Nat) (a : ByteArray), v6 = .string a ∧ v7 = .int .i64 (j : Int) ∧ Aside0 (j + kq = qs.length + 1 ∧ j ≤ qs.length) ∧ Aside0 (r = readF l (qs.drop j) a) ∧ Aside0 (a.size ≤ j * 1000000) ∧ Aside0 (Below w.heap.size w wr))
 case atStart => exact ⟨0, _, rfl, rfl, ⟨by omega, by omega⟩, RR, ⟨by decide⟩, HB⟩
 case round =>
  clear HB RR
  obtain ⟨j, a, rfl, rfl, HJ, RR, HA, HB⟩ := hrel
  cases gk with
  | zero => have := HJ.out; omega
  | succ k1 =>
   by_cases hj : j < qs.length
   ·have hlt : ((j : Int) < (qs.length : Int)) = True := eq_true (by omega)
    have hd : decide ((j : Int) < (qs.length : Int)) = true := decide_eq_true (by omega)
    obtain ⟨ad, e, h0, h1⟩ := at_T65 (Kd.C_below HR.out HB.out) (j : Int) (by omega) (by omega)
    rw [Int.toNat_natCast] at h0 h1
    obtain ⟨q, hq⟩ : ∃ q, q = rd_T65 qs (j : Int) := ⟨_, rfl⟩
    rw [← hq] at h0 h1
    subst e
    have hqm : q = qs[j] := by rw [hq]; simp [rd_T65, hj]
    have hz2 := HZ.out q (by rw [hqm]; exact List.getElem_mem _)
    have HQ2 := Aside0.mk (HQ.out q (by rw [hqm]; exact List.getElem_mem _))
    have R2 : r = readF l (q :: qs.drop (j + 1)) a := by rw [RR.out, hqm, List.drop_eq_getElem_cons hj]
    obtain ⟨f0, f1⟩ := q
    simp only at h0 h1 HQ2 hz2
    have RA := Aside0.mk R2
    clear R2 hq hqm RR
    go_wp2_with (fail)
    refine (Get_calls (HS.out.below HB.out) f0 HQ2.out).mono ?_
    rintro e w5 ⟨rfl, hb⟩
    have B5 := Aside0.mk (below_step HB.out hb)
    have h05 := (hb.cell (World.block_lt_of_cell? _ _ h0)).trans h0
    have h15 := (hb.cell (World.block_lt_of_cell? _ _ h1)).trans h1
    have R3 := RA.out
    unfold readF at R3
    simp only at R3
    generalize getX l f0 = g at R3 hz2 ⊢
    obtain ⟨t, en⟩ := g
    simp only at R3 hz2 ⊢
    have hsum : a.size + t.size ≤ (j + 1) * 1000000 := by have := HA.out; omega
    have hcat : a.size + t.size ≤ 1001000000 := by have := HL.out; omega
    have hcat2 : (a.size : Int) + (t.size : Int) ≤ 9223372036854775807 := by omega
    have hcat3 : a.size + t.size ≤ 9223372036854775807 := by omega
    have HM := Aside0.mk hsum
    clear hsum hz2
    clear h0 h1 RA HB hb
    by_cases hen : en = 0
    ·subst hen
     by_cases hsz : ((t.size : Nat) : Int) = f1
     ·rw [if_neg (by rintro (h | h); exact h rfl; exact h hsz)] at R3
      have R4 := Aside0.mk R3
      subst hsz
      clear R3
      go_wp2_with (fail)
      go_roundg k1
      case measure => have := HJ.out; omega
      case rel => exact ⟨j + 1, _, rfl, (by rw [IntWalk.wrap64_in _ (by have := HL.out; omega)]; rfl), ⟨by have := HJ.out; omega, by omega⟩, R4, ⟨by rw [ByteArray.size_append]; exact HM.out⟩, B5⟩
     ·rw [if_pos (Or.inr hsz)] at R3
      have q1 : (((t.size : Nat) : Int) == f1) = false := beq_eq_false_iff_ne.mpr hsz
      have q2 : (((t.size : Nat) : Int) = f1) = False := eq_false hsz
      have R4 := Aside0.mk R3
      clear R3 hsz
      go_wp2_with (fail)
      go_ret2
      exact ⟨by rw [R4.out]; first | rfl | simp, B5.out⟩
    ·rw [if_pos (Or.inl hen)] at R3
     have q1 : (en == 0) = false := beq_eq_false_iff_ne.mpr hen
     have q2 : (en = 0) = False := eq_false hen
     have R4 := Aside0.mk R3
     clear R3 hen
     go_wp2_with (fail)
     go_ret2
     exact ⟨by rw [R4.out]; first | rfl | simp, B5.out⟩
   ·have hlt : ((j : Int) < (qs.length : Int)) = False := eq_false (by omega)
    have hd : decide ((j : Int) < (qs.length : Int)) = false := decide_eq_false (by omega)
    have R4 : Aside0 (r = (a, true)) := ⟨by rw [RR.out, List.drop_of_length_le (by omega)]; rfl⟩
    go_wp2_with (fail)
    go_ret2
    exact ⟨by rw [R4.out]; first | rfl | simp, HB.out⟩
end Go.Proofs.YtpgbkeaaklglkaaGreatDoor.Q