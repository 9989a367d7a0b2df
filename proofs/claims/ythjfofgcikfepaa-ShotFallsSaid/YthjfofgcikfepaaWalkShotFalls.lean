/- ShotFalls answers true at every input. -/
import Derived.Outline
import Derived.StillTailTactics
import Derived.Deep.AppendLies
import Derived.Test.YthjfofgcikfepaaShW
namespace Go.Proofs.Ythjfofgcikfepaa.Q
open Go.Maps Go.WideShapes Go.WideMaps Go.RowKit Go.Proofs.YthjfofgcikfepaaW.PrintWords Go.Proofs.YthjfofgcikfepaaW.PrintLast Go.Proofs.YthjfofgcikfepaaW.PrintMore
set_option linter.unusedVariables false
set_option linter.unusedSimpArgs false
set_option maxHeartbeats 10000000
set_option maxRecDepth 100000
/-! ShotFalls -/
theorem slice_back {w wA w' : World} {A : Option Addr} {l : List S24} (h : Kd.C k24 w A l.length l) (bA : Below w.heap.size w wA) (b : Below wA.heap.size wA w') (j : Nat) (hj : j < l.length) {p : S24} (hp : p = l.getD j z24) {ad : Addr} {B : Option Addr} {c : Nat} (hA : A = some ad) (hc : w'.cell? ⟨(ad.add (j * 4)).block, (ad.add (j * 4)).off + 2, none⟩ = some (.slice B p.f2.length c)) : Kd.C (Kd.int .i64) w B p.f2.length p.f2 := by
 obtain ⟨ad', B', c', e, _, _, h2, _, _, hC⟩ := at_S h j hj
 rw [hA] at e
 injection e with e
 subst e
 rw [← hp] at h2 hC
 have h3 := (b.cell (cell_lt ((bA.cell (cell_lt h2)).trans h2))).trans ((bA.cell (cell_lt h2)).trans h2)
 rw [h3] at hc
 simp only [Option.some.injEq, Value.slice.injEq] at hc
 rw [← hc.1]
 exact hC
theorem walkShotFalls (w : World) (A : Option Addr) (c : Nat) (l : List S24) (hC : Kd.C k24 w A l.length l) (hl : ∀ s ∈ l, s.f2.length ≤ 1000000000000000000) (p0 p1 p2 p3 p4 p5 : Int) :
  Calls Try.prog 6 #[.slice A l.length c, .agg #[.int .i64 p0, .int .i64 p1, .int .i64 p2, .int .i64 p3, .int .i64 p4, .int .i64 p5]] w fun e w' => e = .returned (.bool true) ∧ Below w.heap.size w w' := by
 have hu := Try.underlying24
 have hu2 := Try.underlying30
 have hu3 := Try.underlying51
 have HC := Aside0.mk hC
 have HL := Aside0.mk hl
 clear hC hl
 go_enter Try.func6, Try.ntmps6
 go_wp2_with (fail)
 generalize hwa : w.alloc (.cells #[.int .i64 p0, .int .i64 p1, .int .i64 p2, .int .i64 p3, .int .i64 p4, .int .i64 p5] 52 (0, 0)) = wA
 have PA : Aside0 (wA.heap[w.heap.size]? = some (.cells #[.int .i64 p0, .int .i64 p1, .int .i64 p2, .int .i64 p3, .int .i64 p4, .int .i64 p5] 52 (0, 0))) := ⟨by rw [← hwa]; exact heap_alloc_new _ _⟩
 have BA : Aside0 (Below w.heap.size w wA) := ⟨by rw [← hwa]; exact below_alloc (Below.refl _ _) _⟩
 clear hwa
 refine (new_calls wA).mono ?_
 rintro e wn1 ⟨dd, rfl, hI, hb⟩
 have B1 := Aside0.mk hb
 have I1 : Aside0 (IsD wn1 dd (fun k => wA.heap.size ≤ k) (idle none none 0 [] (-1) false)) := ⟨hI⟩
 have LP := Aside0.mk (blk_lt PA.out)
 have CA := Aside0.mk (Kd.C_below HC.out BA.out)
 clear hI hb
 go_wp2_with (fail)
 refine (awk_calls _).mono ?_
 rintro e w2 ⟨rfl, hb⟩
 have B2 := Aside0.mk (B1.out.trans (hb.mono B1.out.size))
 have I2 := Aside0.mk (I1.out.below hb)
 clear hb I1 B1
 have P2 := Aside0.mk ((B2.out.block _ LP.out).trans PA.out)
 have q0 := (blk_cell P2.out 0).trans rfl
 have q1 := (blk_cell P2.out 1).trans rfl
 have q2 := (blk_cell P2.out 2).trans rfl
 go_wp2_with (fail)
 generalize (wrap64 (p0.tmod 16 + 16)).tmod 16 = pa
 have hF := fall_one w2 ⟨pa, p1, p2⟩
 have b3 : Below w2.heap.size w2 (w2.alloc (.cells #[.int .i64 pa, .int .i64 p1, .int .i64 p2] 51 (0, 0))) := below_alloc (Below.refl _ _) _
 have B3 := Aside0.mk (B2.out.trans (b3.mono B2.out.size))
 have I3 := Aside0.mk (I2.out.below b3)
 have HF := Aside0.mk hF
 clear hF b3 B2 I2 P2 q0 q1 q2
 refine (plan_calls I3.out (fun k hk => Nat.le_trans B3.out.size hk) (some ⟨w2.heap.size, 0, none⟩) 1 [⟨pa, p1, p2⟩] HF.out (by show 1 * 24 ≤ _; decide)).mono ?_
 rintro e w4 ⟨rfl, hI, hK⟩
 have B4 := Aside0.mk (B3.out.trans (hK.below B3.out.size))
 have I4 : Aside0 (IsD w4 dd (fun k => wA.heap.size ≤ k) (idle none none 0 [⟨pa, p1, p2⟩] (-1) false)) := ⟨hI⟩
 clear hI hK HF I3 B3
 go_wp2_with (fail)
 have G6 : Aside0 (((w4.alloc (.cells #[.int .i64 0, .int .i64 0, .slice none 0 0, .string ⟨#[]⟩] 30 (0, 0))).alloc (.cells #[.int .i64 0, .int .i64 0, .slice none 0 0, .string ⟨#[]⟩] 30 (0, 0))).heap[w4.heap.size]? = some (.cells #[.int .i64 0, .int .i64 0, .slice none 0 0, .string ⟨#[]⟩] 30 (0, 0))) := ⟨blk_below (heap_alloc_new w4 (.cells #[.int .i64 0, .int .i64 0, .slice none 0 0, .string ⟨#[]⟩] 30 (0, 0))) (below_alloc (Below.refl _ _) _)⟩
 have G7 : Aside0 (((w4.alloc (.cells #[.int .i64 0, .int .i64 0, .slice none 0 0, .string ⟨#[]⟩] 30 (0, 0))).alloc (.cells #[.int .i64 0, .int .i64 0, .slice none 0 0, .string ⟨#[]⟩] 30 (0, 0))).heap[w4.heap.size + 1]? = some (.cells #[.int .i64 0, .int .i64 0, .slice none 0 0, .string ⟨#[]⟩] 30 (0, 0))) := ⟨by rw [← alloc_size w4 (.cells #[.int .i64 0, .int .i64 0, .slice none 0 0, .string ⟨#[]⟩] 30 (0, 0))]; exact heap_alloc_new _ _⟩
 have b5 : Below w4.heap.size w4 ((w4.alloc (.cells #[.int .i64 0, .int .i64 0, .slice none 0 0, .string ⟨#[]⟩] 30 (0, 0))).alloc (.cells #[.int .i64 0, .int .i64 0, .slice none 0 0, .string ⟨#[]⟩] 30 (0, 0))) := below_alloc (below_alloc (Below.refl _ _) _) _
 have I5 := Aside0.mk ((I4.out.bound.step (W' := (w4.alloc (.cells #[.int .i64 0, .int .i64 0, .slice none 0 0, .string ⟨#[]⟩] 30 (0, 0))).alloc (.cells #[.int .i64 0, .int .i64 0, .slice none 0 0, .string ⟨#[]⟩] 30 (0, 0))) (fun k hk _ => b5.block k hk.2)).mono (ok' := (fun k => wA.heap.size ≤ k ∧ k ≠ w4.heap.size ∧ k ≠ w4.heap.size + 1)) (fun k hk => ⟨hk.1, by have := hk.2; omega, by have := hk.2; omega⟩))
 have B5 := Aside0.mk (B4.out.trans (b5.mono B4.out.size))
 have L4 : Aside0 (wA.heap.size ≤ w4.heap.size) := ⟨B4.out.size⟩
 clear b5 I4 B4
 generalize (w4.alloc (.cells #[.int .i64 0, .int .i64 0, .slice none 0 0, .string ⟨#[]⟩] 30 (0, 0))).alloc (.cells #[.int .i64 0, .int .i64 0, .slice none 0 0, .string ⟨#[]⟩] 30 (0, 0)) = w5 at G6 G7 I5 B5 ⊢
 have S5 : Aside0 (Bx w w4.heap.size w5 z24) := ⟨none, 0, G6.out, Nat.le_refl _, Kd.C_nil _ _, Nat.zero_le _⟩
 have T5 : Aside0 (Bx w (w4.heap.size + 1) w5 z24) := ⟨none, 0, G7.out, Nat.le_refl _, Kd.C_nil _ _, Nat.zero_le _⟩
 clear G6 G7
 go_loopg [8, 9] 9 (fun kq v8 v9 w' => ∃ (j : Nat) (x y : Option ByteArray) (n : Int) (f : List Fal) (dn : Bool) (s t : S24), v8 = .int .i64 (j : Int) ∧ Aside0 (j + kq = 9 ∧ j ≤ 8) ∧ Aside0 (IsD w' dd (fun k => wA.heap.size ≤ k ∧ k ≠ w4.heap.size ∧ k ≠ w4.heap.size + 1) (idle x y n f (-1) dn)) ∧ Aside0 (Bx w w4.heap.size w' s) ∧ Aside0 (Bx w (w4.heap.size + 1) w' t) ∧ Aside0 ((IV x s ∨ (dn = true ∧ IV x t)) ∧ f.length ≤ 1 ∧ 0 ≤ n ∧ n ≤ 2 * j ∧ osz y ≤ 131190) ∧ Aside0 (Below wA.heap.size wA w'))
 case atStart => exact ⟨0, none, none, 0, _, false, z24, z24, rfl, ⟨by omega, by omega⟩, I5, S5, T5, ⟨Or.inl (Or.inl ⟨rfl, rfl⟩), Nat.le_refl _, by omega, by omega, Nat.zero_le _⟩, B5⟩
 case round =>
  obtain ⟨j, x, y, n, f, dn, s, t, rfl, HJ, HI, HS, HT, HV, HB⟩ := hrel
  cases gk with
  | zero => have := HJ.out; omega
  | succ k1 =>
   by_cases hj : j < l.length
   ·have hlt : ((j : Int) < (l.length : Int)) = True := eq_true (by omega)
    by_cases hj8 : j < 8
    ·have hlt8 : ((j : Int) < (8 : Int)) = True := eq_true (by omega)
     go_wp2_with (fail)
     refine (down_calls HI.out).mono ?_
     rintro e w6 ⟨rfl, rfl⟩
     cases dn with
     | true =>
      rw [show (idle x y n f (-1) true).down = true from rfl]
      have HVV : Aside0 ((IV x s ∨ IV x t) ∧ f.length ≤ 1 ∧ 0 ≤ n ∧ n ≤ 16 ∧ osz y ≤ 131190) := ⟨HV.out.1.elim Or.inl (fun h => Or.inr h.2), HV.out.2.1, HV.out.2.2.1, by have := HV.out.2.2.2.1; have := HJ.out; omega, HV.out.2.2.2.2⟩
      have HXS : Aside0 (osz x ≤ 131190) := ⟨HVV.out.1.elim IV.sz IV.sz⟩
      have P0 := Aside0.mk ((HB.out.block _ LP.out).trans PA.out)
      have I0 := HI
      have S0 := HS
      have T0 := HT
      have B0 := HB
      clear HV HI HS HT HB HJ
      have q1 := (blk_cell P0.out 1).trans rfl
      have q2 := (blk_cell P0.out 2).trans rfl
      go_wp2_with (fail)
      refine (fail_calls I0.out (fun k hk => ⟨Nat.le_trans B0.out.size hk, by have := S0.out.lt; omega, by have := T0.out.lt; omega⟩) trivial p1 p2).mono ?_
      rintro e w1 ⟨rfl, hI, hK⟩
      rw [fail_any] at hI
      have I1 : Aside0 (IsD w1 dd (fun k => wA.heap.size ≤ k ∧ k ≠ w4.heap.size ∧ k ≠ w4.heap.size + 1) (idle x y n f (-1) true)) := ⟨hI⟩
      have S1 := Aside0.mk (S0.out.step (hK.block _ S0.out.lt (fun h => h.2.1 rfl)))
      have T1 := Aside0.mk (T0.out.step (hK.block _ T0.out.lt (fun h => h.2.2 rfl)))
      have B1 := Aside0.mk (B0.out.trans ((hK.mono (ok' := fun k => wA.heap.size ≤ k) (fun k _ hk => hk.1)).below B0.out.size))
      clear hI hK I0 S0 T0 B0
      clear q1 q2 P0
      go_wp2_with (fail)
      refine (up_calls I1.out).mono ?_
      rintro e wU2 ⟨rfl, hI, hK⟩
      have I2 : Aside0 (IsD wU2 dd (fun k => wA.heap.size ≤ k ∧ k ≠ w4.heap.size ∧ k ≠ w4.heap.size + 1) (idle x y n f (-1) false)) := ⟨hI⟩
      have S2 := Aside0.mk (S1.out.step (hK.block _ S1.out.lt (fun h => h.2.1 rfl)))
      have T2 := Aside0.mk (T1.out.step (hK.block _ T1.out.lt (fun h => h.2.2 rfl)))
      have B2 := Aside0.mk (B1.out.trans ((hK.mono (ok' := fun k => wA.heap.size ≤ k) (fun k _ hk => hk.1)).below B1.out.size))
      clear hI hK I1 S1 T1 B1
      go_upto_region 19 with (fail)
      generalize hz : wU2 = wz at I2 S2 T2 B2 ⊢
      clear hz
      have PZ := Aside0.mk (blk_drew ((B2.out.block _ LP.out).trans PA.out))
      have IZ := Aside0.mk (I2.out.step (W' := wz.drew) (fun _ _ _ => rfl))
      have BZ := Aside0.mk B2.out.drew
      have SZ := Aside0.mk (S2.out.step (w' := wz.drew) rfl)
      have TZ := Aside0.mk (T2.out.step (w' := wz.drew) rfl)
      clear I2 S2 T2 B2
      obtain ⟨hq4, hq5⟩ : wz.drew.cell? ⟨w.heap.size, 4, none⟩ = some (.int .i64 p4) ∧ wz.drew.cell? ⟨w.heap.size, 5, none⟩ = some (.int .i64 p5) := ⟨(blk_cell PZ.out 4).trans rfl, (blk_cell PZ.out 5).trans rfl⟩
      refine start_ (n := 12) (S := (fun w' => w'.cell? ⟨w.heap.size, 4, none⟩ = some (.int .i64 p4) ∧ w'.cell? ⟨w.heap.size, 5, none⟩ = some (.int .i64 p5))) (ds := []) #[false, false, false, false, false, false, false, false, false, false, false, false] (by kernel_rfl) rfl rfl ⟨hq4, hq5⟩ (fun hHeld => ?_)
      generalize wz.drew = wy at PZ IZ BZ SZ TZ hHeld ⊢
      have PY := PZ
      have IY := IZ
      have BY := BZ
      have SY := SZ
      have TY := TZ
      clear PZ IZ BZ SZ TZ
      refine pure_ (i := 0) (N := some 88) (v := ?_) (a' := ?_) #[true, false, false, false, false, false, false, false, false, false, false, false] rfl rfl (by kernel_rfl) (fun _ _ _ h => h) (Or.inl ⟨by rfl, ?_⟩) ?_ ?_
      rotate_left
      ·intro w'
       go_simp
       with_reducible rfl
      rotate_left
      ·simp only [Act.put, List.setIfInBounds_toArray, List.set_cons_zero, List.set_cons_succ]
       rfl
      refine pure_ (i := 1) (N := some 89) (v := ?_) (a' := ?_) #[true, true, false, false, false, false, false, false, false, false, false, false] rfl rfl (by kernel_rfl) (fun _ _ _ h => h) (Or.inl ⟨by rfl, ?_⟩) ?_ ?_
      rotate_left
      ·intro w'
       go_simp
       with_reducible rfl
      rotate_left
      ·simp only [Act.put, List.setIfInBounds_toArray, List.set_cons_zero, List.set_cons_succ]
       rfl
      refine pure_ (i := 3) (N := some 91) (v := ?_) (a' := ?_) #[true, true, false, true, false, false, false, false, false, false, false, false] rfl rfl (by kernel_rfl) (fun _ _ _ h => h) (Or.inl ⟨by rfl, ?_⟩) ?_ ?_
      rotate_left
      ·intro w'
       go_simp
       with_reducible rfl
      rotate_left
      ·simp only [Act.put, List.setIfInBounds_toArray, List.set_cons_zero, List.set_cons_succ]
       rfl
      refine pure_ (i := 4) (N := some 92) (v := ?_) (a' := ?_) #[true, true, false, true, true, false, false, false, false, false, false, false] rfl rfl (by kernel_rfl) (fun _ _ _ h => h) (Or.inl ⟨by rfl, ?_⟩) ?_ ?_
      rotate_left
      ·intro w'
       go_simp
       with_reducible rfl
      rotate_left
      ·simp only [Act.put, List.setIfInBounds_toArray, List.set_cons_zero, List.set_cons_succ]
       rfl
      refine take_ (i := 5) (N := some 93) (v := ?_) (a' := ?_) #[true, true, false, true, true, true, false, false, false, false, false, false] rfl rfl (by kernel_rfl) (fun _ _ _ h => h) (Or.inl ⟨by rfl, ?_⟩) (by first | exact hHeld | assumption) ?_ ?_
      rotate_left
      ·rintro w' ⟨s0, s1⟩
       go_simp
       with_reducible rfl
      rotate_left
      ·simp only [Act.put, List.setIfInBounds_toArray, List.set_cons_zero, List.set_cons_succ]
       rfl
      refine pure_ (i := 6) (N := some 94) (v := ?_) (a' := ?_) #[true, true, false, true, true, true, true, false, false, false, false, false] rfl rfl (by kernel_rfl) (fun _ _ _ h => h) (Or.inl ⟨by rfl, ?_⟩) ?_ ?_
      rotate_left
      ·intro w'
       go_simp
       with_reducible rfl
      rotate_left
      ·simp only [Act.put, List.setIfInBounds_toArray, List.set_cons_zero, List.set_cons_succ]
       rfl
      refine pure_ (i := 7) (N := some 95) (v := ?_) (a' := ?_) #[true, true, false, true, true, true, true, true, false, false, false, false] rfl rfl (by kernel_rfl) (fun _ _ _ h => h) (Or.inl ⟨by rfl, ?_⟩) ?_ ?_
      rotate_left
      ·intro w'
       go_simp
       with_reducible rfl
      rotate_left
      ·simp only [Act.put, List.setIfInBounds_toArray, List.set_cons_zero, List.set_cons_succ]
       rfl
      refine take_ (i := 8) (N := some 96) (v := ?_) (a' := ?_) #[true, true, false, true, true, true, true, true, true, false, false, false] rfl rfl (by kernel_rfl) (fun _ _ _ h => h) (Or.inl ⟨by rfl, ?_⟩) (by first | exact hHeld | assumption) ?_ ?_
      rotate_left
      ·rintro w' ⟨s0, s1⟩
       go_simp
       with_reducible rfl
      rotate_left
      ·simp only [Act.put, List.setIfInBounds_toArray, List.set_cons_zero, List.set_cons_succ]
       rfl
      refine one_ (i := 2) (N := some 90) #[true, true, true, true, true, true, true, true, true, false, false, false] rfl rfl (by kernel_rfl) (by decide) (fun K hK => ?_)
      refine call_ 29 #[.pointer (some ⟨dd, 0, none⟩)] (by rfl) rfl (by first | (go_simp; done) | (go_simp; rfl)) ?_
      refine (changes_calls2 (w := wy) IY.out).mono ?_
      rintro e wc ⟨rfl, rfl⟩
      refine ⟨_, rfl, hK.out _ _ ⟨(blk_cell PY.out 4).trans rfl, (blk_cell PY.out 5).trans rfl⟩ (fun hHeld => ?_)⟩
      clear hK K
      refine norm_ (a' := ?_) ?_ ?_
      rotate_left
      ·show Act.put _ (some 90) _ = _
       simp only [Act.put, List.setIfInBounds_toArray, List.set_cons_zero, List.set_cons_succ]
       rfl
      refine pure_ (i := 9) (N := some 97) (v := ?_) (a' := ?_) #[true, true, true, true, true, true, true, true, true, true, false, false] rfl rfl (by kernel_rfl) (fun _ _ _ h => h) (Or.inl ⟨by rfl, ?_⟩) ?_ ?_
      rotate_left
      ·intro w'
       go_simp
       with_reducible rfl
      rotate_left
      ·simp only [Act.put, List.setIfInBounds_toArray, List.set_cons_zero, List.set_cons_succ]
       rfl
      refine one_ (i := 10) (N := some 98) #[true, true, true, true, true, true, true, true, true, true, true, false] rfl rfl (by kernel_rfl) (by decide) (fun K hK => ?_)
      refine value_ (v := .slice (some ⟨wy.heap.size, 0, none⟩) 1 1) (w1 := wy.alloc (.cells #[.int .i64 n, .int .i64 p4, .int .i64 p5] 51 (0, 0))) (by rfl) rfl (by first | (go_simp; done) | (go_simp; rfl)) ?_
      have hfC := Aside0.mk (fall_one wy ⟨n, p4, p5⟩)
      have bX : Below wy.heap.size wy (wy.alloc (.cells #[.int .i64 n, .int .i64 p4, .int .i64 p5] 51 (0, 0))) := below_alloc (Below.refl _ _) _
      have IX := Aside0.mk (IY.out.below bX)
      have BX := Aside0.mk (BY.out.trans (bX.mono BY.out.size))
      have PX := Aside0.mk ((bX.block _ (blk_lt PY.out)).trans PY.out)
      have SX := Aside0.mk (SY.out.step (bX.block _ SY.out.lt))
      have TX := Aside0.mk (TY.out.step (bX.block _ TY.out.lt))
      clear bX IY BY PY SY TY
      generalize hgx : wy.heap.size = gx at hfC ⊢
      generalize wy.alloc (.cells #[.int .i64 n, .int .i64 p4, .int .i64 p5] 51 (0, 0)) = wx at hfC IX BX PX SX TX ⊢
      refine hK.out _ _ ⟨(blk_cell PX.out 4).trans rfl, (blk_cell PX.out 5).trans rfl⟩ (fun hHeld => ?_)
      clear hK K hgx
      refine norm_ (a' := ?_) ?_ ?_
      rotate_left
      ·show Act.put _ (some 98) _ = _
       simp only [Act.put, List.setIfInBounds_toArray, List.set_cons_zero, List.set_cons_succ]
       rfl
      refine one_ (i := 11) (N := some 99) #[true, true, true, true, true, true, true, true, true, true, true, true] rfl rfl (by kernel_rfl) (by decide) (fun K hK => ?_)
      refine call_ 25 #[.pointer (some ⟨dd, 0, none⟩), .slice (some ⟨gx, 0, none⟩) 1 1] (by rfl) rfl (by first | (go_simp; done) | (go_simp; rfl)) ?_
      refine (plan_calls IX.out (fun k hk => ⟨Nat.le_trans BX.out.size hk, by have := SX.out.lt; omega, by have := TX.out.lt; omega⟩) (some ⟨gx, 0, none⟩) 1 [⟨n, p4, p5⟩] hfC.out (by show 1 * 24 ≤ _; decide)).mono ?_
      rintro e wp ⟨rfl, hI, hKp⟩
      have I3 : Aside0 (IsD wp dd (fun k => wA.heap.size ≤ k ∧ k ≠ w4.heap.size ∧ k ≠ w4.heap.size + 1) (idle x y n [⟨n, p4, p5⟩] (-1) false)) := ⟨hI⟩
      have S3 := Aside0.mk (SX.out.step (hKp.block _ SX.out.lt (fun h => h.2.1 rfl)))
      have T3 := Aside0.mk (TX.out.step (hKp.block _ TX.out.lt (fun h => h.2.2 rfl)))
      have B3 := Aside0.mk (BX.out.trans ((hKp.mono (ok' := fun k => wA.heap.size ≤ k) (fun k _ hk => hk.1)).below BX.out.size))
      have P3 := Aside0.mk ((B3.out.block _ LP.out).trans PA.out)
      clear hI hKp IX BX PX SX TX hfC
      refine ⟨_, rfl, hK.out _ _ ⟨(blk_cell P3.out 4).trans rfl, (blk_cell P3.out 5).trans rfl⟩ (fun hHeld => ?_)⟩
      clear hK K
      refine norm_ (a' := ?_) ?_ ?_
      rotate_left
      ·show Act.put _ (some 99) _ = _
       simp only [Act.put, List.setIfInBounds_toArray, List.set_cons_zero, List.set_cons_succ]
       rfl
      refine done_ (by kernel_rfl) ?_
      clear hHeld
      obtain ⟨y1, n1, f1, dn1, e1, hlk, hy1, hn1⟩ := load_one x y n [⟨n, p4, p5⟩]
      have HLK := Aside0.mk hlk
      have HY1 : Aside0 (osz y1 ≤ 131190 ∧ 0 ≤ n1 ∧ n1 ≤ 17) := ⟨by have := HVV.out; omega, by have := HVV.out; omega, by have := HVV.out; omega⟩
      obtain ⟨R1, hR1⟩ : ∃ R : (Int × Int × List Int × ByteArray) × Bool × Int, R = if (loadK (idle x y n [⟨n, p4, p5⟩] (-1) false)).2 = 0 then loadR x else noL (loadK (idle x y n [⟨n, p4, p5⟩] (-1) false)).2 := ⟨_, rfl⟩
      have HR1 := Aside0.mk hR1
      clear hlk hy1 hn1 P3 hR1
      go_wp2_with (fail)
      refine (load_calls I3.out (fun k hk => ⟨Nat.le_trans B3.out.size hk, by have := S3.out.lt; omega, by have := T3.out.lt; omega⟩) (by have := HXS.out; omega) (by have := HXS.out; have := HVV.out; omega) (by have := HVV.out; omega) (by show 1 ≤ _; decide) R1 HR1.out).mono ?_
      rintro e w6 ⟨v6, rfl, _, hI, hK⟩
      rw [HLK.out] at hI
      have I6 : Aside0 (IsD w6 dd (fun k => wA.heap.size ≤ k ∧ k ≠ w4.heap.size ∧ k ≠ w4.heap.size + 1) (idle x y1 n1 f1 (-1) dn1)) := ⟨hI⟩
      have S6 := Aside0.mk (S3.out.step (hK.block _ S3.out.lt (fun h => h.2.1 rfl)))
      have T6 := Aside0.mk (T3.out.step (hK.block _ T3.out.lt (fun h => h.2.2 rfl)))
      have B6 := Aside0.mk (B3.out.trans ((hK.mono (ok' := fun k => wA.heap.size ≤ k) (fun k _ hk => hk.1)).below B3.out.size))
      clear hI hK I3 S3 T3 B3 HR1
      go_wp2_with (fail)
      refine (plan_calls I6.out (fun k hk => ⟨Nat.le_trans B6.out.size hk, by have := S6.out.lt; omega, by have := T6.out.lt; omega⟩) none 0 [] (Kd.C_nil _ _) (by decide)).mono ?_
      rintro e w7 ⟨rfl, hI, hK⟩
      have I7 : Aside0 (IsD w7 dd (fun k => wA.heap.size ≤ k ∧ k ≠ w4.heap.size ∧ k ≠ w4.heap.size + 1) (idle x y1 n1 [] (-1) dn1)) := ⟨hI⟩
      have S7 := Aside0.mk (S6.out.step (hK.block _ S6.out.lt (fun h => h.2.1 rfl)))
      have T7 := Aside0.mk (T6.out.step (hK.block _ T6.out.lt (fun h => h.2.2 rfl)))
      have B7 := Aside0.mk (B6.out.trans ((hK.mono (ok' := fun k => wA.heap.size ≤ k) (fun k _ hk => hk.1)).below B6.out.size))
      clear hI hK I6 S6 T6 B6
      have P7 := Aside0.mk ((B7.out.block _ LP.out).trans PA.out)
      have q4 := (blk_cell P7.out 4).trans rfl
      have q5 := (blk_cell P7.out 5).trans rfl
      go_wp2_with (fail)
      refine (fail_calls I7.out (fun k hk => ⟨Nat.le_trans B7.out.size hk, by have := S7.out.lt; omega, by have := T7.out.lt; omega⟩) trivial p4 p5).mono ?_
      rintro e w8 ⟨rfl, hI, hK⟩
      rw [fail_any] at hI
      have I8 : Aside0 (IsD w8 dd (fun k => wA.heap.size ≤ k ∧ k ≠ w4.heap.size ∧ k ≠ w4.heap.size + 1) (idle x y1 n1 [] (-1) true)) := ⟨hI⟩
      have S8 := Aside0.mk (S7.out.step (hK.block _ S7.out.lt (fun h => h.2.1 rfl)))
      have T8 := Aside0.mk (T7.out.step (hK.block _ T7.out.lt (fun h => h.2.2 rfl)))
      have B8 := Aside0.mk (B7.out.trans ((hK.mono (ok' := fun k => wA.heap.size ≤ k) (fun k _ hk => hk.1)).below B7.out.size))
      clear hI hK I7 S7 T7 B7
      clear q4 q5 P7
      go_wp2_with (fail)
      refine (up_calls I8.out).mono ?_
      rintro e w9 ⟨rfl, hI, hK⟩
      have I9 : Aside0 (IsD w9 dd (fun k => wA.heap.size ≤ k ∧ k ≠ w4.heap.size ∧ k ≠ w4.heap.size + 1) (idle x y1 n1 [] (-1) false)) := ⟨hI⟩
      have S9 := Aside0.mk (S8.out.step (hK.block _ S8.out.lt (fun h => h.2.1 rfl)))
      have T9 := Aside0.mk (T8.out.step (hK.block _ T8.out.lt (fun h => h.2.2 rfl)))
      have B9 := Aside0.mk (B8.out.trans ((hK.mono (ok' := fun k => wA.heap.size ≤ k) (fun k _ hk => hk.1)).below B8.out.size))
      clear hI hK I8 S8 T8 B8
      obtain ⟨n2, hl2⟩ := load_nofall x y1 n1 (-1)
      obtain ⟨u, hu0, hst⟩ : ∃ u, IV x u ∧ (u = s ∨ u = t) := HVV.out.1.elim (fun h => ⟨s, h, Or.inl rfl⟩) (fun h => ⟨t, h, Or.inr rfl⟩)
      have HR2 : Aside0 (((u.f0, u.f1, u.f2, u.f3), !(u.f2.length == 0), 0) = if (loadK (idle x y1 n1 [] (-1) false)).2 = 0 then loadR x else noL (loadK (idle x y1 n1 [] (-1) false)).2) := ⟨by rw [hl2]; exact hu0.load.symm⟩
      clear hl2 hu0
      go_wp2_with (fail)
      refine (load_calls I9.out (fun k hk => ⟨Nat.le_trans B9.out.size hk, by have := S9.out.lt; omega, by have := T9.out.lt; omega⟩) (by have := HXS.out; omega) (by have := HXS.out; have := HY1.out; omega) (by have := HY1.out; omega) (by decide) _ HR2.out).mono ?_
      rintro e wa ⟨va, rfl, hR, _, hK⟩
      obtain ⟨Au, cu, eu, hlu, hCu⟩ := Kd.R_reads hR
      subst eu
      have Sa := Aside0.mk (S9.out.step (hK.block _ S9.out.lt (fun h => h.2.1 rfl)))
      have Ta := Aside0.mk (T9.out.step (hK.block _ T9.out.lt (fun h => h.2.2 rfl)))
      have Ba := Aside0.mk (B9.out.trans ((hK.mono (ok' := fun k => wA.heap.size ≤ k) (fun k _ hk => hk.1)).below B9.out.size))
      have LCU := Aside0.mk hlu
      have CU := Aside0.mk hCu
      have bb : Below wa.heap.size wa (wa.alloc (.cells #[.int .i64 u.f0, .int .i64 u.f1, .slice Au u.f2.length cu, .string u.f3] 24 (0, 0))) := below_alloc (Below.refl _ _) _
      have ZB := Aside0.mk (heap_alloc_new wa (.cells #[.int .i64 u.f0, .int .i64 u.f1, .slice Au u.f2.length cu, .string u.f3] 24 (0, 0)))
      have SB := Aside0.mk (Sa.out.step (bb.block _ Sa.out.lt))
      have TB := Aside0.mk (Ta.out.step (bb.block _ Ta.out.lt))
      have BB := Aside0.mk (Ba.out.trans (bb.mono Ba.out.size))
      have DB := Aside0.mk bb
      clear hR hK hlu hCu bb I9 S9 T9 B9 Sa Ta Ba HR2
      obtain ⟨Ls, hLs⟩ : ∃ n : Nat, n = u.f2.length := ⟨_, rfl⟩
      have eZB_0 := (blk_cell ZB.out 0).trans rfl
      have eZB_1 := (blk_cell ZB.out 1).trans rfl
      have eZB_2 := (blk_cell ZB.out 2).trans rfl
      have eZB_3 := (blk_cell ZB.out 3).trans rfl
      have hlen : (u.f2.length = 0 ∧ (!(u.f2.length == 0)) = false) ∨ (0 < u.f2.length ∧ (!(u.f2.length == 0)) = true) := by
       rcases Nat.eq_zero_or_pos u.f2.length with h | h
       ·exact Or.inl ⟨h, by rw [h]; rfl⟩
       ·exact Or.inr ⟨h, by rw [show (u.f2.length == 0) = false from beq_eq_false_iff_ne.mpr (by omega)]; rfl⟩
      clear hLs
      rcases hlen with ⟨hl0, hl1⟩ | ⟨hl0, hl1⟩
      ·have g0 : ((u.f2.length : Int) > 0) = False := eq_false (by omega)
       have g1 : (0 < (u.f2.length : Int)) = False := eq_false (by omega)
       have g2 : (0 < u.f2.length) = False := eq_false (by omega)
       rw [hl1]
       clear hl0 hl1
       go_upto_region 27 with (fail)
       generalize wa.alloc (.cells #[.int .i64 u.f0, .int .i64 u.f1, .slice Au u.f2.length cu, .string u.f3] 24 (0, 0)) = wE at ZB SB TB BB DB ⊢
       obtain ⟨As, cs, s6, hcs, hCs, hls⟩ := SB.out
       obtain ⟨At, ct, t7, hct, hCt, hlt7⟩ := TB.out
       have BE := Aside0.mk (BA.out.trans (BB.out.mono BA.out.size))
       have CS := Aside0.mk hCs
       have CT := Aside0.mk hCt
       have LCS := Aside0.mk hcs
       have LCT := Aside0.mk hct
       have UH_0 := Aside0.mk (blk_drew ZB.out)
       have SH_0 := Aside0.mk (blk_drew s6)
       have TH_0 := Aside0.mk (blk_drew t7)
       have BH_0 := Aside0.mk (below_drew1 BE.out)
       have EH_0 : Aside0 (Below w.heap.size w wE.drew) := ⟨below_drew1 BE.out⟩
       have DH_0 := Aside0.mk DB.out.drew
       have hul : u.f2.length ≤ 1000000000000000000 := hst.elim (fun h => h ▸ hls) (fun h => h ▸ hlt7)
       have hsm := same_ev u.f0 u.f1 u.f2 u.f3 s.f0 s.f1 s.f2 s.f3 hul
       have htm : u = t → Ev (fun k => stowageref07_Same.f k u.f0 u.f1 u.f2 u.f3 t.f0 t.f1 t.f2 t.f3) true := fun h => by
        have := same_ev u.f0 u.f1 u.f2 u.f3 t.f0 t.f1 t.f2 t.f3 hul
        rw [h, sameS_refl] at this
        rw [h]; exact this
       have hv : sameS u.f0 u.f1 u.f2 u.f3 s.f0 s.f1 s.f2 s.f3 = true ∨ (sameS u.f0 u.f1 u.f2 u.f3 s.f0 s.f1 s.f2 s.f3 = false ∧ u = t) := by
        rcases hst with h | h
        ·left; rw [h]; exact sameS_refl _ _ _ _
        ·cases hx : sameS u.f0 u.f1 u.f2 u.f3 s.f0 s.f1 s.f2 s.f3 with
         | true => exact Or.inl rfl
         | false => exact Or.inr ⟨rfl, h⟩
       clear hst hls hlt7 hul SB TB ZB DB BB s6 t7 hcs hct hCs hCt
       rcases hv with hv | ⟨hv, hut⟩
       ·rw [hv] at hsm
        obtain ⟨k4, hk4⟩ := hsm.rounds
        have HSM := Aside0.mk hk4
        clear hsm htm hv hk4
        refine start_ (n := 11) (S := (fun w' => w'.cell? ⟨wa.heap.size, 0, none⟩ = some (.int .i64 u.f0) ∧ w'.cell? ⟨wa.heap.size, 1, none⟩ = some (.int .i64 u.f1) ∧ w'.cell? ⟨wa.heap.size, 2, none⟩ = some (.slice Au u.f2.length cu) ∧ w'.cell? ⟨wa.heap.size, 3, none⟩ = some (.string u.f3) ∧ w'.cell? ⟨w4.heap.size, 0, none⟩ = some (.int .i64 s.f0) ∧ w'.cell? ⟨w4.heap.size, 1, none⟩ = some (.int .i64 s.f1) ∧ w'.cell? ⟨w4.heap.size, 2, none⟩ = some (.slice As s.f2.length cs) ∧ w'.cell? ⟨w4.heap.size, 3, none⟩ = some (.string s.f3) ∧ w'.cell? ⟨w4.heap.size + 1, 0, none⟩ = some (.int .i64 t.f0) ∧ w'.cell? ⟨w4.heap.size + 1, 1, none⟩ = some (.int .i64 t.f1) ∧ w'.cell? ⟨w4.heap.size + 1, 2, none⟩ = some (.slice At t.f2.length ct) ∧ w'.cell? ⟨w4.heap.size + 1, 3, none⟩ = some (.string t.f3))) (ds := []) #[false, false, false, false, false, false, false, false, false, false, false] (by kernel_rfl) rfl rfl ⟨(blk_cell UH_0.out 0).trans rfl, (blk_cell UH_0.out 1).trans rfl, (blk_cell UH_0.out 2).trans rfl, (blk_cell UH_0.out 3).trans rfl, (blk_cell SH_0.out 0).trans rfl, (blk_cell SH_0.out 1).trans rfl, (blk_cell SH_0.out 2).trans rfl, (blk_cell SH_0.out 3).trans rfl, (blk_cell TH_0.out 0).trans rfl, (blk_cell TH_0.out 1).trans rfl, (blk_cell TH_0.out 2).trans rfl, (blk_cell TH_0.out 3).trans rfl⟩ (fun hHeld => ?_)
        refine take_ (i := 0) (N := some 130) (v := ?_) (a' := ?_) #[true, false, false, false, false, false, false, false, false, false, false] rfl rfl (by kernel_rfl) (fun _ _ _ h => h) (Or.inl ⟨by rfl, ?_⟩) (by first | exact hHeld | assumption) ?_ ?_
        rotate_left
        ·rintro w' ⟨s0, s1, s2, s3, s4, s5, s6, s7, s8, s9, s10, s11⟩
         go_simp
         with_reducible rfl
        rotate_left
        ·simp only [Act.put, List.setIfInBounds_toArray, List.set_cons_zero, List.set_cons_succ]
         rfl
        refine take_ (i := 2) (N := some 132) (v := ?_) (a' := ?_) #[true, false, true, false, false, false, false, false, false, false, false] rfl rfl (by kernel_rfl) (fun _ _ _ h => h) (Or.inl ⟨by rfl, ?_⟩) (by first | exact hHeld | assumption) ?_ ?_
        rotate_left
        ·rintro w' ⟨s0, s1, s2, s3, s4, s5, s6, s7, s8, s9, s10, s11⟩
         go_simp
         with_reducible rfl
        rotate_left
        ·simp only [Act.put, List.setIfInBounds_toArray, List.set_cons_zero, List.set_cons_succ]
         rfl
        refine one_ (i := 1) (N := some 131) #[true, true, true, false, false, false, false, false, false, false, false] rfl rfl (by kernel_rfl) (by decide) (fun K hK => ?_)
        refine call_ 13 #[.agg #[.int .i64 u.f0, .int .i64 u.f1, .slice Au u.f2.length cu, .string u.f3]] (by rfl) rfl (by first | (go_simp; done) | (go_simp; rfl)) ?_
        refine (ref_calls u.f0 u.f1 Au u.f2.length cu u.f3 wE.drew).mono ?_
        rintro e wh1 ⟨rfl, hbh0⟩
        have UH_1 := Aside0.mk (blk_below UH_0.out hbh0)
        have SH_1 := Aside0.mk (blk_below SH_0.out hbh0)
        have TH_1 := Aside0.mk (blk_below TH_0.out hbh0)
        have BH_1 := Aside0.mk (below_step BH_0.out hbh0)
        have EH_1 := Aside0.mk (EH_0.out.trans (hbh0.mono EH_0.out.size))
        have DH_1 := Aside0.mk (DH_0.out.trans (hbh0.mono DH_0.out.size))
        clear hbh0
        refine ⟨_, rfl, hK.out _ _ ⟨(blk_cell UH_1.out 0).trans rfl, (blk_cell UH_1.out 1).trans rfl, (blk_cell UH_1.out 2).trans rfl, (blk_cell UH_1.out 3).trans rfl, (blk_cell SH_1.out 0).trans rfl, (blk_cell SH_1.out 1).trans rfl, (blk_cell SH_1.out 2).trans rfl, (blk_cell SH_1.out 3).trans rfl, (blk_cell TH_1.out 0).trans rfl, (blk_cell TH_1.out 1).trans rfl, (blk_cell TH_1.out 2).trans rfl, (blk_cell TH_1.out 3).trans rfl⟩ (fun hHeld => ?_)⟩
        clear hK K
        refine norm_ (a' := ?_) ?_ ?_
        rotate_left
        ·show Act.put _ (some 131) _ = _
         simp only [Act.put, List.setIfInBounds_toArray, List.set_cons_zero, List.set_cons_succ]
         rfl
        refine one_ (i := 3) (N := some 133) #[true, true, true, true, false, false, false, false, false, false, false] rfl rfl (by kernel_rfl) (by decide) (fun K hK => ?_)
        refine call_ 19 #[.agg #[.int .i64 u.f0, .int .i64 u.f1, .slice Au u.f2.length cu, .string u.f3], .agg #[.int .i64 s.f0, .int .i64 s.f1, .slice As s.f2.length cs, .string s.f3]] (by rfl) rfl (by first | (go_simp; done) | (go_simp; rfl)) ?_
        refine (stowageref07_Same.calls k4 u.f0 u.f1 Au cu u.f2 u.f3 s.f0 s.f1 As cs s.f2 s.f3 true wh1 (Kd.C_below CU.out DH_1.out) LCU.out (Kd.C_below CS.out EH_1.out) LCS.out HSM.out).mono ?_
        rintro e wh2 ⟨rfl, hbh1⟩
        have UH_2 := Aside0.mk (blk_below UH_1.out hbh1)
        have SH_2 := Aside0.mk (blk_below SH_1.out hbh1)
        have TH_2 := Aside0.mk (blk_below TH_1.out hbh1)
        have BH_2 := Aside0.mk (below_step BH_1.out hbh1)
        have EH_2 := Aside0.mk (EH_1.out.trans (hbh1.mono EH_1.out.size))
        have DH_2 := Aside0.mk (DH_1.out.trans (hbh1.mono DH_1.out.size))
        clear hbh1
        refine ⟨_, rfl, hK.out _ _ ⟨(blk_cell UH_2.out 0).trans rfl, (blk_cell UH_2.out 1).trans rfl, (blk_cell UH_2.out 2).trans rfl, (blk_cell UH_2.out 3).trans rfl, (blk_cell SH_2.out 0).trans rfl, (blk_cell SH_2.out 1).trans rfl, (blk_cell SH_2.out 2).trans rfl, (blk_cell SH_2.out 3).trans rfl, (blk_cell TH_2.out 0).trans rfl, (blk_cell TH_2.out 1).trans rfl, (blk_cell TH_2.out 2).trans rfl, (blk_cell TH_2.out 3).trans rfl⟩ (fun hHeld => ?_)⟩
        clear hK K
        refine norm_ (a' := ?_) ?_ ?_
        rotate_left
        ·show Act.put _ (some 133) _ = _
         simp only [Act.put, List.setIfInBounds_toArray, List.set_cons_zero, List.set_cons_succ]
         rfl
        refine pure_ (i := 4) (N := some 134) (v := ?_) (a' := ?_) #[true, true, true, true, true, false, false, false, false, false, false] rfl rfl (by kernel_rfl) (fun _ _ _ h => h) (Or.inl ⟨by rfl, ?_⟩) ?_ ?_
        rotate_left
        ·intro w'
         go_simp
         with_reducible rfl
        rotate_left
        ·simp only [Act.put, List.setIfInBounds_toArray, List.set_cons_zero, List.set_cons_succ]
         rfl
        refine pure_ (i := 5) (N := some 135) (v := undef) (a' := ?_) #[true, true, true, true, true, true, false, false, false, false, false] rfl rfl (by kernel_rfl) (fun _ _ _ h => h) (Or.inr ⟨by rfl, rfl⟩) ?_ ?_
        rotate_left
        ·simp only [Act.put, List.setIfInBounds_toArray, List.set_cons_zero, List.set_cons_succ]
         rfl
        refine pure_ (i := 6) (N := some 136) (v := undef) (a' := ?_) #[true, true, true, true, true, true, true, false, false, false, false] rfl rfl (by kernel_rfl) (fun _ _ _ h => h) (Or.inr ⟨by rfl, rfl⟩) ?_ ?_
        rotate_left
        ·simp only [Act.put, List.setIfInBounds_toArray, List.set_cons_zero, List.set_cons_succ]
         rfl
        refine pure_ (i := 7) (N := some 137) (v := undef) (a' := ?_) #[true, true, true, true, true, true, true, true, false, false, false] rfl rfl (by kernel_rfl) (fun _ _ _ h => h) (Or.inr ⟨by rfl, rfl⟩) ?_ ?_
        rotate_left
        ·simp only [Act.put, List.setIfInBounds_toArray, List.set_cons_zero, List.set_cons_succ]
         rfl
        refine pure_ (i := 8) (N := some 138) (v := undef) (a' := ?_) #[true, true, true, true, true, true, true, true, true, false, false] rfl rfl (by kernel_rfl) (fun _ _ _ h => h) (Or.inr ⟨by rfl, rfl⟩) ?_ ?_
        rotate_left
        ·simp only [Act.put, List.setIfInBounds_toArray, List.set_cons_zero, List.set_cons_succ]
         rfl
        refine pure_ (i := 9) (N := some 139) (v := ?_) (a' := ?_) #[true, true, true, true, true, true, true, true, true, true, false] rfl rfl (by kernel_rfl) (fun _ _ _ h => h) (Or.inl ⟨by rfl, ?_⟩) ?_ ?_
        rotate_left
        ·intro w'
         go_simp
         with_reducible rfl
        rotate_left
        ·simp only [Act.put, List.setIfInBounds_toArray, List.set_cons_zero, List.set_cons_succ]
         rfl
        refine pure_ (i := 10) (N := some 4) (v := ?_) (a' := ?_) #[true, true, true, true, true, true, true, true, true, true, true] rfl rfl (by kernel_rfl) (fun _ _ _ h => h) (Or.inl ⟨by rfl, ?_⟩) ?_ ?_
        rotate_left
        ·intro w'
         go_simp
         with_reducible rfl
        rotate_left
        ·simp only [Act.put, List.setIfInBounds_toArray, List.set_cons_zero, List.set_cons_succ]
         rfl
        refine done_ (by kernel_rfl) ?_
        clear hHeld
        go_wp2
        go_ret
        exact ⟨rfl, BH_2.out⟩
       ·rw [hv] at hsm
        obtain ⟨k4, hk4⟩ := hsm.rounds
        obtain ⟨k5, hk5⟩ := (htm hut).rounds
        have HSM := Aside0.mk hk4
        have HTM := Aside0.mk hk5
        clear hsm htm hv hk4 hk5 hut
        refine start_ (n := 11) (S := (fun w' => w'.cell? ⟨wa.heap.size, 0, none⟩ = some (.int .i64 u.f0) ∧ w'.cell? ⟨wa.heap.size, 1, none⟩ = some (.int .i64 u.f1) ∧ w'.cell? ⟨wa.heap.size, 2, none⟩ = some (.slice Au u.f2.length cu) ∧ w'.cell? ⟨wa.heap.size, 3, none⟩ = some (.string u.f3) ∧ w'.cell? ⟨w4.heap.size, 0, none⟩ = some (.int .i64 s.f0) ∧ w'.cell? ⟨w4.heap.size, 1, none⟩ = some (.int .i64 s.f1) ∧ w'.cell? ⟨w4.heap.size, 2, none⟩ = some (.slice As s.f2.length cs) ∧ w'.cell? ⟨w4.heap.size, 3, none⟩ = some (.string s.f3) ∧ w'.cell? ⟨w4.heap.size + 1, 0, none⟩ = some (.int .i64 t.f0) ∧ w'.cell? ⟨w4.heap.size + 1, 1, none⟩ = some (.int .i64 t.f1) ∧ w'.cell? ⟨w4.heap.size + 1, 2, none⟩ = some (.slice At t.f2.length ct) ∧ w'.cell? ⟨w4.heap.size + 1, 3, none⟩ = some (.string t.f3))) (ds := []) #[false, false, false, false, false, false, false, false, false, false, false] (by kernel_rfl) rfl rfl ⟨(blk_cell UH_0.out 0).trans rfl, (blk_cell UH_0.out 1).trans rfl, (blk_cell UH_0.out 2).trans rfl, (blk_cell UH_0.out 3).trans rfl, (blk_cell SH_0.out 0).trans rfl, (blk_cell SH_0.out 1).trans rfl, (blk_cell SH_0.out 2).trans rfl, (blk_cell SH_0.out 3).trans rfl, (blk_cell TH_0.out 0).trans rfl, (blk_cell TH_0.out 1).trans rfl, (blk_cell TH_0.out 2).trans rfl, (blk_cell TH_0.out 3).trans rfl⟩ (fun hHeld => ?_)
        refine take_ (i := 0) (N := some 130) (v := ?_) (a' := ?_) #[true, false, false, false, false, false, false, false, false, false, false] rfl rfl (by kernel_rfl) (fun _ _ _ h => h) (Or.inl ⟨by rfl, ?_⟩) (by first | exact hHeld | assumption) ?_ ?_
        rotate_left
        ·rintro w' ⟨s0, s1, s2, s3, s4, s5, s6, s7, s8, s9, s10, s11⟩
         go_simp
         with_reducible rfl
        rotate_left
        ·simp only [Act.put, List.setIfInBounds_toArray, List.set_cons_zero, List.set_cons_succ]
         rfl
        refine take_ (i := 2) (N := some 132) (v := ?_) (a' := ?_) #[true, false, true, false, false, false, false, false, false, false, false] rfl rfl (by kernel_rfl) (fun _ _ _ h => h) (Or.inl ⟨by rfl, ?_⟩) (by first | exact hHeld | assumption) ?_ ?_
        rotate_left
        ·rintro w' ⟨s0, s1, s2, s3, s4, s5, s6, s7, s8, s9, s10, s11⟩
         go_simp
         with_reducible rfl
        rotate_left
        ·simp only [Act.put, List.setIfInBounds_toArray, List.set_cons_zero, List.set_cons_succ]
         rfl
        refine one_ (i := 1) (N := some 131) #[true, true, true, false, false, false, false, false, false, false, false] rfl rfl (by kernel_rfl) (by decide) (fun K hK => ?_)
        refine call_ 13 #[.agg #[.int .i64 u.f0, .int .i64 u.f1, .slice Au u.f2.length cu, .string u.f3]] (by rfl) rfl (by first | (go_simp; done) | (go_simp; rfl)) ?_
        refine (ref_calls u.f0 u.f1 Au u.f2.length cu u.f3 wE.drew).mono ?_
        rintro e wh1 ⟨rfl, hbh0⟩
        have UH_1 := Aside0.mk (blk_below UH_0.out hbh0)
        have SH_1 := Aside0.mk (blk_below SH_0.out hbh0)
        have TH_1 := Aside0.mk (blk_below TH_0.out hbh0)
        have BH_1 := Aside0.mk (below_step BH_0.out hbh0)
        have EH_1 := Aside0.mk (EH_0.out.trans (hbh0.mono EH_0.out.size))
        have DH_1 := Aside0.mk (DH_0.out.trans (hbh0.mono DH_0.out.size))
        clear hbh0
        refine ⟨_, rfl, hK.out _ _ ⟨(blk_cell UH_1.out 0).trans rfl, (blk_cell UH_1.out 1).trans rfl, (blk_cell UH_1.out 2).trans rfl, (blk_cell UH_1.out 3).trans rfl, (blk_cell SH_1.out 0).trans rfl, (blk_cell SH_1.out 1).trans rfl, (blk_cell SH_1.out 2).trans rfl, (blk_cell SH_1.out 3).trans rfl, (blk_cell TH_1.out 0).trans rfl, (blk_cell TH_1.out 1).trans rfl, (blk_cell TH_1.out 2).trans rfl, (blk_cell TH_1.out 3).trans rfl⟩ (fun hHeld => ?_)⟩
        clear hK K
        refine norm_ (a' := ?_) ?_ ?_
        rotate_left
        ·show Act.put _ (some 131) _ = _
         simp only [Act.put, List.setIfInBounds_toArray, List.set_cons_zero, List.set_cons_succ]
         rfl
        refine one_ (i := 3) (N := some 133) #[true, true, true, true, false, false, false, false, false, false, false] rfl rfl (by kernel_rfl) (by decide) (fun K hK => ?_)
        refine call_ 19 #[.agg #[.int .i64 u.f0, .int .i64 u.f1, .slice Au u.f2.length cu, .string u.f3], .agg #[.int .i64 s.f0, .int .i64 s.f1, .slice As s.f2.length cs, .string s.f3]] (by rfl) rfl (by first | (go_simp; done) | (go_simp; rfl)) ?_
        refine (stowageref07_Same.calls k4 u.f0 u.f1 Au cu u.f2 u.f3 s.f0 s.f1 As cs s.f2 s.f3 false wh1 (Kd.C_below CU.out DH_1.out) LCU.out (Kd.C_below CS.out EH_1.out) LCS.out HSM.out).mono ?_
        rintro e wh2 ⟨rfl, hbh1⟩
        have UH_2 := Aside0.mk (blk_below UH_1.out hbh1)
        have SH_2 := Aside0.mk (blk_below SH_1.out hbh1)
        have TH_2 := Aside0.mk (blk_below TH_1.out hbh1)
        have BH_2 := Aside0.mk (below_step BH_1.out hbh1)
        have EH_2 := Aside0.mk (EH_1.out.trans (hbh1.mono EH_1.out.size))
        have DH_2 := Aside0.mk (DH_1.out.trans (hbh1.mono DH_1.out.size))
        clear hbh1
        refine ⟨_, rfl, hK.out _ _ ⟨(blk_cell UH_2.out 0).trans rfl, (blk_cell UH_2.out 1).trans rfl, (blk_cell UH_2.out 2).trans rfl, (blk_cell UH_2.out 3).trans rfl, (blk_cell SH_2.out 0).trans rfl, (blk_cell SH_2.out 1).trans rfl, (blk_cell SH_2.out 2).trans rfl, (blk_cell SH_2.out 3).trans rfl, (blk_cell TH_2.out 0).trans rfl, (blk_cell TH_2.out 1).trans rfl, (blk_cell TH_2.out 2).trans rfl, (blk_cell TH_2.out 3).trans rfl⟩ (fun hHeld => ?_)⟩
        clear hK K
        refine norm_ (a' := ?_) ?_ ?_
        rotate_left
        ·show Act.put _ (some 133) _ = _
         simp only [Act.put, List.setIfInBounds_toArray, List.set_cons_zero, List.set_cons_succ]
         rfl
        refine pure_ (i := 4) (N := some 134) (v := ?_) (a' := ?_) #[true, true, true, true, true, false, false, false, false, false, false] rfl rfl (by kernel_rfl) (fun _ _ _ h => h) (Or.inl ⟨by rfl, ?_⟩) ?_ ?_
        rotate_left
        ·intro w'
         go_simp
         with_reducible rfl
        rotate_left
        ·simp only [Act.put, List.setIfInBounds_toArray, List.set_cons_zero, List.set_cons_succ]
         rfl
        refine take_ (i := 5) (N := some 135) (v := ?_) (a' := ?_) #[true, true, true, true, true, true, false, false, false, false, false] rfl rfl (by kernel_rfl) (fun _ _ _ h => h) (Or.inl ⟨by rfl, ?_⟩) (by first | exact hHeld | assumption) ?_ ?_
        rotate_left
        ·rintro w' ⟨s0, s1, s2, s3, s4, s5, s6, s7, s8, s9, s10, s11⟩
         go_simp
         with_reducible rfl
        rotate_left
        ·simp only [Act.put, List.setIfInBounds_toArray, List.set_cons_zero, List.set_cons_succ]
         rfl
        refine take_ (i := 7) (N := some 137) (v := ?_) (a' := ?_) #[true, true, true, true, true, true, false, true, false, false, false] rfl rfl (by kernel_rfl) (fun _ _ _ h => h) (Or.inl ⟨by rfl, ?_⟩) (by first | exact hHeld | assumption) ?_ ?_
        rotate_left
        ·rintro w' ⟨s0, s1, s2, s3, s4, s5, s6, s7, s8, s9, s10, s11⟩
         go_simp
         with_reducible rfl
        rotate_left
        ·simp only [Act.put, List.setIfInBounds_toArray, List.set_cons_zero, List.set_cons_succ]
         rfl
        refine one_ (i := 6) (N := some 136) #[true, true, true, true, true, true, true, true, false, false, false] rfl rfl (by kernel_rfl) (by decide) (fun K hK => ?_)
        refine call_ 13 #[.agg #[.int .i64 u.f0, .int .i64 u.f1, .slice Au u.f2.length cu, .string u.f3]] (by rfl) rfl (by first | (go_simp; done) | (go_simp; rfl)) ?_
        refine (ref_calls u.f0 u.f1 Au u.f2.length cu u.f3 wh2).mono ?_
        rintro e wh3 ⟨rfl, hbh2⟩
        have UH_3 := Aside0.mk (blk_below UH_2.out hbh2)
        have SH_3 := Aside0.mk (blk_below SH_2.out hbh2)
        have TH_3 := Aside0.mk (blk_below TH_2.out hbh2)
        have BH_3 := Aside0.mk (below_step BH_2.out hbh2)
        have EH_3 := Aside0.mk (EH_2.out.trans (hbh2.mono EH_2.out.size))
        have DH_3 := Aside0.mk (DH_2.out.trans (hbh2.mono DH_2.out.size))
        clear hbh2
        refine ⟨_, rfl, hK.out _ _ ⟨(blk_cell UH_3.out 0).trans rfl, (blk_cell UH_3.out 1).trans rfl, (blk_cell UH_3.out 2).trans rfl, (blk_cell UH_3.out 3).trans rfl, (blk_cell SH_3.out 0).trans rfl, (blk_cell SH_3.out 1).trans rfl, (blk_cell SH_3.out 2).trans rfl, (blk_cell SH_3.out 3).trans rfl, (blk_cell TH_3.out 0).trans rfl, (blk_cell TH_3.out 1).trans rfl, (blk_cell TH_3.out 2).trans rfl, (blk_cell TH_3.out 3).trans rfl⟩ (fun hHeld => ?_)⟩
        clear hK K
        refine norm_ (a' := ?_) ?_ ?_
        rotate_left
        ·show Act.put _ (some 136) _ = _
         simp only [Act.put, List.setIfInBounds_toArray, List.set_cons_zero, List.set_cons_succ]
         rfl
        refine one_ (i := 8) (N := some 138) #[true, true, true, true, true, true, true, true, true, false, false] rfl rfl (by kernel_rfl) (by decide) (fun K hK => ?_)
        refine call_ 19 #[.agg #[.int .i64 u.f0, .int .i64 u.f1, .slice Au u.f2.length cu, .string u.f3], .agg #[.int .i64 t.f0, .int .i64 t.f1, .slice At t.f2.length ct, .string t.f3]] (by rfl) rfl (by first | (go_simp; done) | (go_simp; rfl)) ?_
        refine (stowageref07_Same.calls k5 u.f0 u.f1 Au cu u.f2 u.f3 t.f0 t.f1 At ct t.f2 t.f3 true wh3 (Kd.C_below CU.out DH_3.out) LCU.out (Kd.C_below CT.out EH_3.out) LCT.out HTM.out).mono ?_
        rintro e wh4 ⟨rfl, hbh3⟩
        have UH_4 := Aside0.mk (blk_below UH_3.out hbh3)
        have SH_4 := Aside0.mk (blk_below SH_3.out hbh3)
        have TH_4 := Aside0.mk (blk_below TH_3.out hbh3)
        have BH_4 := Aside0.mk (below_step BH_3.out hbh3)
        have EH_4 := Aside0.mk (EH_3.out.trans (hbh3.mono EH_3.out.size))
        have DH_4 := Aside0.mk (DH_3.out.trans (hbh3.mono DH_3.out.size))
        clear hbh3
        refine ⟨_, rfl, hK.out _ _ ⟨(blk_cell UH_4.out 0).trans rfl, (blk_cell UH_4.out 1).trans rfl, (blk_cell UH_4.out 2).trans rfl, (blk_cell UH_4.out 3).trans rfl, (blk_cell SH_4.out 0).trans rfl, (blk_cell SH_4.out 1).trans rfl, (blk_cell SH_4.out 2).trans rfl, (blk_cell SH_4.out 3).trans rfl, (blk_cell TH_4.out 0).trans rfl, (blk_cell TH_4.out 1).trans rfl, (blk_cell TH_4.out 2).trans rfl, (blk_cell TH_4.out 3).trans rfl⟩ (fun hHeld => ?_)⟩
        clear hK K
        refine norm_ (a' := ?_) ?_ ?_
        rotate_left
        ·show Act.put _ (some 138) _ = _
         simp only [Act.put, List.setIfInBounds_toArray, List.set_cons_zero, List.set_cons_succ]
         rfl
        refine pure_ (i := 9) (N := some 139) (v := ?_) (a' := ?_) #[true, true, true, true, true, true, true, true, true, true, false] rfl rfl (by kernel_rfl) (fun _ _ _ h => h) (Or.inl ⟨by rfl, ?_⟩) ?_ ?_
        rotate_left
        ·intro w'
         go_simp
         with_reducible rfl
        rotate_left
        ·simp only [Act.put, List.setIfInBounds_toArray, List.set_cons_zero, List.set_cons_succ]
         rfl
        refine pure_ (i := 10) (N := some 4) (v := ?_) (a' := ?_) #[true, true, true, true, true, true, true, true, true, true, true] rfl rfl (by kernel_rfl) (fun _ _ _ h => h) (Or.inl ⟨by rfl, ?_⟩) ?_ ?_
        rotate_left
        ·intro w'
         go_simp
         with_reducible rfl
        rotate_left
        ·simp only [Act.put, List.setIfInBounds_toArray, List.set_cons_zero, List.set_cons_succ]
         rfl
        refine done_ (by kernel_rfl) ?_
        clear hHeld
        go_wp2
        go_ret
        exact ⟨rfl, BH_4.out⟩
      ·have g0 : ((u.f2.length : Int) > 0) = True := eq_true (by omega)
       have g1 : (0 < (u.f2.length : Int)) = True := eq_true (by omega)
       have g2 : (0 < u.f2.length) = True := eq_true hl0
       rw [hl1]
       clear hl0 hl1
       go_upto_region 27 with (fail)
       generalize wa.alloc (.cells #[.int .i64 u.f0, .int .i64 u.f1, .slice Au u.f2.length cu, .string u.f3] 24 (0, 0)) = wE at ZB SB TB BB DB ⊢
       obtain ⟨As, cs, s6, hcs, hCs, hls⟩ := SB.out
       obtain ⟨At, ct, t7, hct, hCt, hlt7⟩ := TB.out
       have BE := Aside0.mk (BA.out.trans (BB.out.mono BA.out.size))
       have CS := Aside0.mk hCs
       have CT := Aside0.mk hCt
       have LCS := Aside0.mk hcs
       have LCT := Aside0.mk hct
       have UH_0 := Aside0.mk (blk_drew ZB.out)
       have SH_0 := Aside0.mk (blk_drew s6)
       have TH_0 := Aside0.mk (blk_drew t7)
       have BH_0 := Aside0.mk (below_drew1 BE.out)
       have EH_0 : Aside0 (Below w.heap.size w wE.drew) := ⟨below_drew1 BE.out⟩
       have DH_0 := Aside0.mk DB.out.drew
       have hul : u.f2.length ≤ 1000000000000000000 := hst.elim (fun h => h ▸ hls) (fun h => h ▸ hlt7)
       have hsm := same_ev u.f0 u.f1 u.f2 u.f3 s.f0 s.f1 s.f2 s.f3 hul
       have htm : u = t → Ev (fun k => stowageref07_Same.f k u.f0 u.f1 u.f2 u.f3 t.f0 t.f1 t.f2 t.f3) true := fun h => by
        have := same_ev u.f0 u.f1 u.f2 u.f3 t.f0 t.f1 t.f2 t.f3 hul
        rw [h, sameS_refl] at this
        rw [h]; exact this
       have hv : sameS u.f0 u.f1 u.f2 u.f3 s.f0 s.f1 s.f2 s.f3 = true ∨ (sameS u.f0 u.f1 u.f2 u.f3 s.f0 s.f1 s.f2 s.f3 = false ∧ u = t) := by
        rcases hst with h | h
        ·left; rw [h]; exact sameS_refl _ _ _ _
        ·cases hx : sameS u.f0 u.f1 u.f2 u.f3 s.f0 s.f1 s.f2 s.f3 with
         | true => exact Or.inl rfl
         | false => exact Or.inr ⟨rfl, h⟩
       clear hst hls hlt7 hul SB TB ZB DB BB s6 t7 hcs hct hCs hCt
       rcases hv with hv | ⟨hv, hut⟩
       ·rw [hv] at hsm
        obtain ⟨k4, hk4⟩ := hsm.rounds
        have HSM := Aside0.mk hk4
        clear hsm htm hv hk4
        refine start_ (n := 11) (S := (fun w' => w'.cell? ⟨wa.heap.size, 0, none⟩ = some (.int .i64 u.f0) ∧ w'.cell? ⟨wa.heap.size, 1, none⟩ = some (.int .i64 u.f1) ∧ w'.cell? ⟨wa.heap.size, 2, none⟩ = some (.slice Au u.f2.length cu) ∧ w'.cell? ⟨wa.heap.size, 3, none⟩ = some (.string u.f3) ∧ w'.cell? ⟨w4.heap.size, 0, none⟩ = some (.int .i64 s.f0) ∧ w'.cell? ⟨w4.heap.size, 1, none⟩ = some (.int .i64 s.f1) ∧ w'.cell? ⟨w4.heap.size, 2, none⟩ = some (.slice As s.f2.length cs) ∧ w'.cell? ⟨w4.heap.size, 3, none⟩ = some (.string s.f3) ∧ w'.cell? ⟨w4.heap.size + 1, 0, none⟩ = some (.int .i64 t.f0) ∧ w'.cell? ⟨w4.heap.size + 1, 1, none⟩ = some (.int .i64 t.f1) ∧ w'.cell? ⟨w4.heap.size + 1, 2, none⟩ = some (.slice At t.f2.length ct) ∧ w'.cell? ⟨w4.heap.size + 1, 3, none⟩ = some (.string t.f3))) (ds := []) #[false, false, false, false, false, false, false, false, false, false, false] (by kernel_rfl) rfl rfl ⟨(blk_cell UH_0.out 0).trans rfl, (blk_cell UH_0.out 1).trans rfl, (blk_cell UH_0.out 2).trans rfl, (blk_cell UH_0.out 3).trans rfl, (blk_cell SH_0.out 0).trans rfl, (blk_cell SH_0.out 1).trans rfl, (blk_cell SH_0.out 2).trans rfl, (blk_cell SH_0.out 3).trans rfl, (blk_cell TH_0.out 0).trans rfl, (blk_cell TH_0.out 1).trans rfl, (blk_cell TH_0.out 2).trans rfl, (blk_cell TH_0.out 3).trans rfl⟩ (fun hHeld => ?_)
        refine take_ (i := 0) (N := some 130) (v := ?_) (a' := ?_) #[true, false, false, false, false, false, false, false, false, false, false] rfl rfl (by kernel_rfl) (fun _ _ _ h => h) (Or.inl ⟨by rfl, ?_⟩) (by first | exact hHeld | assumption) ?_ ?_
        rotate_left
        ·rintro w' ⟨s0, s1, s2, s3, s4, s5, s6, s7, s8, s9, s10, s11⟩
         go_simp
         with_reducible rfl
        rotate_left
        ·simp only [Act.put, List.setIfInBounds_toArray, List.set_cons_zero, List.set_cons_succ]
         rfl
        refine take_ (i := 2) (N := some 132) (v := ?_) (a' := ?_) #[true, false, true, false, false, false, false, false, false, false, false] rfl rfl (by kernel_rfl) (fun _ _ _ h => h) (Or.inl ⟨by rfl, ?_⟩) (by first | exact hHeld | assumption) ?_ ?_
        rotate_left
        ·rintro w' ⟨s0, s1, s2, s3, s4, s5, s6, s7, s8, s9, s10, s11⟩
         go_simp
         with_reducible rfl
        rotate_left
        ·simp only [Act.put, List.setIfInBounds_toArray, List.set_cons_zero, List.set_cons_succ]
         rfl
        refine one_ (i := 1) (N := some 131) #[true, true, true, false, false, false, false, false, false, false, false] rfl rfl (by kernel_rfl) (by decide) (fun K hK => ?_)
        refine call_ 13 #[.agg #[.int .i64 u.f0, .int .i64 u.f1, .slice Au u.f2.length cu, .string u.f3]] (by rfl) rfl (by first | (go_simp; done) | (go_simp; rfl)) ?_
        refine (ref_calls u.f0 u.f1 Au u.f2.length cu u.f3 wE.drew).mono ?_
        rintro e wh1 ⟨rfl, hbh0⟩
        have UH_1 := Aside0.mk (blk_below UH_0.out hbh0)
        have SH_1 := Aside0.mk (blk_below SH_0.out hbh0)
        have TH_1 := Aside0.mk (blk_below TH_0.out hbh0)
        have BH_1 := Aside0.mk (below_step BH_0.out hbh0)
        have EH_1 := Aside0.mk (EH_0.out.trans (hbh0.mono EH_0.out.size))
        have DH_1 := Aside0.mk (DH_0.out.trans (hbh0.mono DH_0.out.size))
        clear hbh0
        refine ⟨_, rfl, hK.out _ _ ⟨(blk_cell UH_1.out 0).trans rfl, (blk_cell UH_1.out 1).trans rfl, (blk_cell UH_1.out 2).trans rfl, (blk_cell UH_1.out 3).trans rfl, (blk_cell SH_1.out 0).trans rfl, (blk_cell SH_1.out 1).trans rfl, (blk_cell SH_1.out 2).trans rfl, (blk_cell SH_1.out 3).trans rfl, (blk_cell TH_1.out 0).trans rfl, (blk_cell TH_1.out 1).trans rfl, (blk_cell TH_1.out 2).trans rfl, (blk_cell TH_1.out 3).trans rfl⟩ (fun hHeld => ?_)⟩
        clear hK K
        refine norm_ (a' := ?_) ?_ ?_
        rotate_left
        ·show Act.put _ (some 131) _ = _
         simp only [Act.put, List.setIfInBounds_toArray, List.set_cons_zero, List.set_cons_succ]
         rfl
        refine one_ (i := 3) (N := some 133) #[true, true, true, true, false, false, false, false, false, false, false] rfl rfl (by kernel_rfl) (by decide) (fun K hK => ?_)
        refine call_ 19 #[.agg #[.int .i64 u.f0, .int .i64 u.f1, .slice Au u.f2.length cu, .string u.f3], .agg #[.int .i64 s.f0, .int .i64 s.f1, .slice As s.f2.length cs, .string s.f3]] (by rfl) rfl (by first | (go_simp; done) | (go_simp; rfl)) ?_
        refine (stowageref07_Same.calls k4 u.f0 u.f1 Au cu u.f2 u.f3 s.f0 s.f1 As cs s.f2 s.f3 true wh1 (Kd.C_below CU.out DH_1.out) LCU.out (Kd.C_below CS.out EH_1.out) LCS.out HSM.out).mono ?_
        rintro e wh2 ⟨rfl, hbh1⟩
        have UH_2 := Aside0.mk (blk_below UH_1.out hbh1)
        have SH_2 := Aside0.mk (blk_below SH_1.out hbh1)
        have TH_2 := Aside0.mk (blk_below TH_1.out hbh1)
        have BH_2 := Aside0.mk (below_step BH_1.out hbh1)
        have EH_2 := Aside0.mk (EH_1.out.trans (hbh1.mono EH_1.out.size))
        have DH_2 := Aside0.mk (DH_1.out.trans (hbh1.mono DH_1.out.size))
        clear hbh1
        refine ⟨_, rfl, hK.out _ _ ⟨(blk_cell UH_2.out 0).trans rfl, (blk_cell UH_2.out 1).trans rfl, (blk_cell UH_2.out 2).trans rfl, (blk_cell UH_2.out 3).trans rfl, (blk_cell SH_2.out 0).trans rfl, (blk_cell SH_2.out 1).trans rfl, (blk_cell SH_2.out 2).trans rfl, (blk_cell SH_2.out 3).trans rfl, (blk_cell TH_2.out 0).trans rfl, (blk_cell TH_2.out 1).trans rfl, (blk_cell TH_2.out 2).trans rfl, (blk_cell TH_2.out 3).trans rfl⟩ (fun hHeld => ?_)⟩
        clear hK K
        refine norm_ (a' := ?_) ?_ ?_
        rotate_left
        ·show Act.put _ (some 133) _ = _
         simp only [Act.put, List.setIfInBounds_toArray, List.set_cons_zero, List.set_cons_succ]
         rfl
        refine pure_ (i := 4) (N := some 134) (v := ?_) (a' := ?_) #[true, true, true, true, true, false, false, false, false, false, false] rfl rfl (by kernel_rfl) (fun _ _ _ h => h) (Or.inl ⟨by rfl, ?_⟩) ?_ ?_
        rotate_left
        ·intro w'
         go_simp
         with_reducible rfl
        rotate_left
        ·simp only [Act.put, List.setIfInBounds_toArray, List.set_cons_zero, List.set_cons_succ]
         rfl
        refine pure_ (i := 5) (N := some 135) (v := undef) (a' := ?_) #[true, true, true, true, true, true, false, false, false, false, false] rfl rfl (by kernel_rfl) (fun _ _ _ h => h) (Or.inr ⟨by rfl, rfl⟩) ?_ ?_
        rotate_left
        ·simp only [Act.put, List.setIfInBounds_toArray, List.set_cons_zero, List.set_cons_succ]
         rfl
        refine pure_ (i := 6) (N := some 136) (v := undef) (a' := ?_) #[true, true, true, true, true, true, true, false, false, false, false] rfl rfl (by kernel_rfl) (fun _ _ _ h => h) (Or.inr ⟨by rfl, rfl⟩) ?_ ?_
        rotate_left
        ·simp only [Act.put, List.setIfInBounds_toArray, List.set_cons_zero, List.set_cons_succ]
         rfl
        refine pure_ (i := 7) (N := some 137) (v := undef) (a' := ?_) #[true, true, true, true, true, true, true, true, false, false, false] rfl rfl (by kernel_rfl) (fun _ _ _ h => h) (Or.inr ⟨by rfl, rfl⟩) ?_ ?_
        rotate_left
        ·simp only [Act.put, List.setIfInBounds_toArray, List.set_cons_zero, List.set_cons_succ]
         rfl
        refine pure_ (i := 8) (N := some 138) (v := undef) (a' := ?_) #[true, true, true, true, true, true, true, true, true, false, false] rfl rfl (by kernel_rfl) (fun _ _ _ h => h) (Or.inr ⟨by rfl, rfl⟩) ?_ ?_
        rotate_left
        ·simp only [Act.put, List.setIfInBounds_toArray, List.set_cons_zero, List.set_cons_succ]
         rfl
        refine pure_ (i := 9) (N := some 139) (v := ?_) (a' := ?_) #[true, true, true, true, true, true, true, true, true, true, false] rfl rfl (by kernel_rfl) (fun _ _ _ h => h) (Or.inl ⟨by rfl, ?_⟩) ?_ ?_
        rotate_left
        ·intro w'
         go_simp
         with_reducible rfl
        rotate_left
        ·simp only [Act.put, List.setIfInBounds_toArray, List.set_cons_zero, List.set_cons_succ]
         rfl
        refine pure_ (i := 10) (N := some 4) (v := ?_) (a' := ?_) #[true, true, true, true, true, true, true, true, true, true, true] rfl rfl (by kernel_rfl) (fun _ _ _ h => h) (Or.inl ⟨by rfl, ?_⟩) ?_ ?_
        rotate_left
        ·intro w'
         go_simp
         with_reducible rfl
        rotate_left
        ·simp only [Act.put, List.setIfInBounds_toArray, List.set_cons_zero, List.set_cons_succ]
         rfl
        refine done_ (by kernel_rfl) ?_
        clear hHeld
        go_wp2
        go_ret
        exact ⟨rfl, BH_2.out⟩
       ·rw [hv] at hsm
        obtain ⟨k4, hk4⟩ := hsm.rounds
        obtain ⟨k5, hk5⟩ := (htm hut).rounds
        have HSM := Aside0.mk hk4
        have HTM := Aside0.mk hk5
        clear hsm htm hv hk4 hk5 hut
        refine start_ (n := 11) (S := (fun w' => w'.cell? ⟨wa.heap.size, 0, none⟩ = some (.int .i64 u.f0) ∧ w'.cell? ⟨wa.heap.size, 1, none⟩ = some (.int .i64 u.f1) ∧ w'.cell? ⟨wa.heap.size, 2, none⟩ = some (.slice Au u.f2.length cu) ∧ w'.cell? ⟨wa.heap.size, 3, none⟩ = some (.string u.f3) ∧ w'.cell? ⟨w4.heap.size, 0, none⟩ = some (.int .i64 s.f0) ∧ w'.cell? ⟨w4.heap.size, 1, none⟩ = some (.int .i64 s.f1) ∧ w'.cell? ⟨w4.heap.size, 2, none⟩ = some (.slice As s.f2.length cs) ∧ w'.cell? ⟨w4.heap.size, 3, none⟩ = some (.string s.f3) ∧ w'.cell? ⟨w4.heap.size + 1, 0, none⟩ = some (.int .i64 t.f0) ∧ w'.cell? ⟨w4.heap.size + 1, 1, none⟩ = some (.int .i64 t.f1) ∧ w'.cell? ⟨w4.heap.size + 1, 2, none⟩ = some (.slice At t.f2.length ct) ∧ w'.cell? ⟨w4.heap.size + 1, 3, none⟩ = some (.string t.f3))) (ds := []) #[false, false, false, false, false, false, false, false, false, false, false] (by kernel_rfl) rfl rfl ⟨(blk_cell UH_0.out 0).trans rfl, (blk_cell UH_0.out 1).trans rfl, (blk_cell UH_0.out 2).trans rfl, (blk_cell UH_0.out 3).trans rfl, (blk_cell SH_0.out 0).trans rfl, (blk_cell SH_0.out 1).trans rfl, (blk_cell SH_0.out 2).trans rfl, (blk_cell SH_0.out 3).trans rfl, (blk_cell TH_0.out 0).trans rfl, (blk_cell TH_0.out 1).trans rfl, (blk_cell TH_0.out 2).trans rfl, (blk_cell TH_0.out 3).trans rfl⟩ (fun hHeld => ?_)
        refine take_ (i := 0) (N := some 130) (v := ?_) (a' := ?_) #[true, false, false, false, false, false, false, false, false, false, false] rfl rfl (by kernel_rfl) (fun _ _ _ h => h) (Or.inl ⟨by rfl, ?_⟩) (by first | exact hHeld | assumption) ?_ ?_
        rotate_left
        ·rintro w' ⟨s0, s1, s2, s3, s4, s5, s6, s7, s8, s9, s10, s11⟩
         go_simp
         with_reducible rfl
        rotate_left
        ·simp only [Act.put, List.setIfInBounds_toArray, List.set_cons_zero, List.set_cons_succ]
         rfl
        refine take_ (i := 2) (N := some 132) (v := ?_) (a' := ?_) #[true, false, true, false, false, false, false, false, false, false, false] rfl rfl (by kernel_rfl) (fun _ _ _ h => h) (Or.inl ⟨by rfl, ?_⟩) (by first | exact hHeld | assumption) ?_ ?_
        rotate_left
        ·rintro w' ⟨s0, s1, s2, s3, s4, s5, s6, s7, s8, s9, s10, s11⟩
         go_simp
         with_reducible rfl
        rotate_left
        ·simp only [Act.put, List.setIfInBounds_toArray, List.set_cons_zero, List.set_cons_succ]
         rfl
        refine one_ (i := 1) (N := some 131) #[true, true, true, false, false, false, false, false, false, false, false] rfl rfl (by kernel_rfl) (by decide) (fun K hK => ?_)
        refine call_ 13 #[.agg #[.int .i64 u.f0, .int .i64 u.f1, .slice Au u.f2.length cu, .string u.f3]] (by rfl) rfl (by first | (go_simp; done) | (go_simp; rfl)) ?_
        refine (ref_calls u.f0 u.f1 Au u.f2.length cu u.f3 wE.drew).mono ?_
        rintro e wh1 ⟨rfl, hbh0⟩
        have UH_1 := Aside0.mk (blk_below UH_0.out hbh0)
        have SH_1 := Aside0.mk (blk_below SH_0.out hbh0)
        have TH_1 := Aside0.mk (blk_below TH_0.out hbh0)
        have BH_1 := Aside0.mk (below_step BH_0.out hbh0)
        have EH_1 := Aside0.mk (EH_0.out.trans (hbh0.mono EH_0.out.size))
        have DH_1 := Aside0.mk (DH_0.out.trans (hbh0.mono DH_0.out.size))
        clear hbh0
        refine ⟨_, rfl, hK.out _ _ ⟨(blk_cell UH_1.out 0).trans rfl, (blk_cell UH_1.out 1).trans rfl, (blk_cell UH_1.out 2).trans rfl, (blk_cell UH_1.out 3).trans rfl, (blk_cell SH_1.out 0).trans rfl, (blk_cell SH_1.out 1).trans rfl, (blk_cell SH_1.out 2).trans rfl, (blk_cell SH_1.out 3).trans rfl, (blk_cell TH_1.out 0).trans rfl, (blk_cell TH_1.out 1).trans rfl, (blk_cell TH_1.out 2).trans rfl, (blk_cell TH_1.out 3).trans rfl⟩ (fun hHeld => ?_)⟩
        clear hK K
        refine norm_ (a' := ?_) ?_ ?_
        rotate_left
        ·show Act.put _ (some 131) _ = _
         simp only [Act.put, List.setIfInBounds_toArray, List.set_cons_zero, List.set_cons_succ]
         rfl
        refine one_ (i := 3) (N := some 133) #[true, true, true, true, false, false, false, false, false, false, false] rfl rfl (by kernel_rfl) (by decide) (fun K hK => ?_)
        refine call_ 19 #[.agg #[.int .i64 u.f0, .int .i64 u.f1, .slice Au u.f2.length cu, .string u.f3], .agg #[.int .i64 s.f0, .int .i64 s.f1, .slice As s.f2.length cs, .string s.f3]] (by rfl) rfl (by first | (go_simp; done) | (go_simp; rfl)) ?_
        refine (stowageref07_Same.calls k4 u.f0 u.f1 Au cu u.f2 u.f3 s.f0 s.f1 As cs s.f2 s.f3 false wh1 (Kd.C_below CU.out DH_1.out) LCU.out (Kd.C_below CS.out EH_1.out) LCS.out HSM.out).mono ?_
        rintro e wh2 ⟨rfl, hbh1⟩
        have UH_2 := Aside0.mk (blk_below UH_1.out hbh1)
        have SH_2 := Aside0.mk (blk_below SH_1.out hbh1)
        have TH_2 := Aside0.mk (blk_below TH_1.out hbh1)
        have BH_2 := Aside0.mk (below_step BH_1.out hbh1)
        have EH_2 := Aside0.mk (EH_1.out.trans (hbh1.mono EH_1.out.size))
        have DH_2 := Aside0.mk (DH_1.out.trans (hbh1.mono DH_1.out.size))
        clear hbh1
        refine ⟨_, rfl, hK.out _ _ ⟨(blk_cell UH_2.out 0).trans rfl, (blk_cell UH_2.out 1).trans rfl, (blk_cell UH_2.out 2).trans rfl, (blk_cell UH_2.out 3).trans rfl, (blk_cell SH_2.out 0).trans rfl, (blk_cell SH_2.out 1).trans rfl, (blk_cell SH_2.out 2).trans rfl, (blk_cell SH_2.out 3).trans rfl, (blk_cell TH_2.out 0).trans rfl, (blk_cell TH_2.out 1).trans rfl, (blk_cell TH_2.out 2).trans rfl, (blk_cell TH_2.out 3).trans rfl⟩ (fun hHeld => ?_)⟩
        clear hK K
        refine norm_ (a' := ?_) ?_ ?_
        rotate_left
        ·show Act.put _ (some 133) _ = _
         simp only [Act.put, List.setIfInBounds_toArray, List.set_cons_zero, List.set_cons_succ]
         rfl
        refine pure_ (i := 4) (N := some 134) (v := ?_) (a' := ?_) #[true, true, true, true, true, false, false, false, false, false, false] rfl rfl (by kernel_rfl) (fun _ _ _ h => h) (Or.inl ⟨by rfl, ?_⟩) ?_ ?_
        rotate_left
        ·intro w'
         go_simp
         with_reducible rfl
        rotate_left
        ·simp only [Act.put, List.setIfInBounds_toArray, List.set_cons_zero, List.set_cons_succ]
         rfl
        refine take_ (i := 5) (N := some 135) (v := ?_) (a' := ?_) #[true, true, true, true, true, true, false, false, false, false, false] rfl rfl (by kernel_rfl) (fun _ _ _ h => h) (Or.inl ⟨by rfl, ?_⟩) (by first | exact hHeld | assumption) ?_ ?_
        rotate_left
        ·rintro w' ⟨s0, s1, s2, s3, s4, s5, s6, s7, s8, s9, s10, s11⟩
         go_simp
         with_reducible rfl
        rotate_left
        ·simp only [Act.put, List.setIfInBounds_toArray, List.set_cons_zero, List.set_cons_succ]
         rfl
        refine take_ (i := 7) (N := some 137) (v := ?_) (a' := ?_) #[true, true, true, true, true, true, false, true, false, false, false] rfl rfl (by kernel_rfl) (fun _ _ _ h => h) (Or.inl ⟨by rfl, ?_⟩) (by first | exact hHeld | assumption) ?_ ?_
        rotate_left
        ·rintro w' ⟨s0, s1, s2, s3, s4, s5, s6, s7, s8, s9, s10, s11⟩
         go_simp
         with_reducible rfl
        rotate_left
        ·simp only [Act.put, List.setIfInBounds_toArray, List.set_cons_zero, List.set_cons_succ]
         rfl
        refine one_ (i := 6) (N := some 136) #[true, true, true, true, true, true, true, true, false, false, false] rfl rfl (by kernel_rfl) (by decide) (fun K hK => ?_)
        refine call_ 13 #[.agg #[.int .i64 u.f0, .int .i64 u.f1, .slice Au u.f2.length cu, .string u.f3]] (by rfl) rfl (by first | (go_simp; done) | (go_simp; rfl)) ?_
        refine (ref_calls u.f0 u.f1 Au u.f2.length cu u.f3 wh2).mono ?_
        rintro e wh3 ⟨rfl, hbh2⟩
        have UH_3 := Aside0.mk (blk_below UH_2.out hbh2)
        have SH_3 := Aside0.mk (blk_below SH_2.out hbh2)
        have TH_3 := Aside0.mk (blk_below TH_2.out hbh2)
        have BH_3 := Aside0.mk (below_step BH_2.out hbh2)
        have EH_3 := Aside0.mk (EH_2.out.trans (hbh2.mono EH_2.out.size))
        have DH_3 := Aside0.mk (DH_2.out.trans (hbh2.mono DH_2.out.size))
        clear hbh2
        refine ⟨_, rfl, hK.out _ _ ⟨(blk_cell UH_3.out 0).trans rfl, (blk_cell UH_3.out 1).trans rfl, (blk_cell UH_3.out 2).trans rfl, (blk_cell UH_3.out 3).trans rfl, (blk_cell SH_3.out 0).trans rfl, (blk_cell SH_3.out 1).trans rfl, (blk_cell SH_3.out 2).trans rfl, (blk_cell SH_3.out 3).trans rfl, (blk_cell TH_3.out 0).trans rfl, (blk_cell TH_3.out 1).trans rfl, (blk_cell TH_3.out 2).trans rfl, (blk_cell TH_3.out 3).trans rfl⟩ (fun hHeld => ?_)⟩
        clear hK K
        refine norm_ (a' := ?_) ?_ ?_
        rotate_left
        ·show Act.put _ (some 136) _ = _
         simp only [Act.put, List.setIfInBounds_toArray, List.set_cons_zero, List.set_cons_succ]
         rfl
        refine one_ (i := 8) (N := some 138) #[true, true, true, true, true, true, true, true, true, false, false] rfl rfl (by kernel_rfl) (by decide) (fun K hK => ?_)
        refine call_ 19 #[.agg #[.int .i64 u.f0, .int .i64 u.f1, .slice Au u.f2.length cu, .string u.f3], .agg #[.int .i64 t.f0, .int .i64 t.f1, .slice At t.f2.length ct, .string t.f3]] (by rfl) rfl (by first | (go_simp; done) | (go_simp; rfl)) ?_
        refine (stowageref07_Same.calls k5 u.f0 u.f1 Au cu u.f2 u.f3 t.f0 t.f1 At ct t.f2 t.f3 true wh3 (Kd.C_below CU.out DH_3.out) LCU.out (Kd.C_below CT.out EH_3.out) LCT.out HTM.out).mono ?_
        rintro e wh4 ⟨rfl, hbh3⟩
        have UH_4 := Aside0.mk (blk_below UH_3.out hbh3)
        have SH_4 := Aside0.mk (blk_below SH_3.out hbh3)
        have TH_4 := Aside0.mk (blk_below TH_3.out hbh3)
        have BH_4 := Aside0.mk (below_step BH_3.out hbh3)
        have EH_4 := Aside0.mk (EH_3.out.trans (hbh3.mono EH_3.out.size))
        have DH_4 := Aside0.mk (DH_3.out.trans (hbh3.mono DH_3.out.size))
        clear hbh3
        refine ⟨_, rfl, hK.out _ _ ⟨(blk_cell UH_4.out 0).trans rfl, (blk_cell UH_4.out 1).trans rfl, (blk_cell UH_4.out 2).trans rfl, (blk_cell UH_4.out 3).trans rfl, (blk_cell SH_4.out 0).trans rfl, (blk_cell SH_4.out 1).trans rfl, (blk_cell SH_4.out 2).trans rfl, (blk_cell SH_4.out 3).trans rfl, (blk_cell TH_4.out 0).trans rfl, (blk_cell TH_4.out 1).trans rfl, (blk_cell TH_4.out 2).trans rfl, (blk_cell TH_4.out 3).trans rfl⟩ (fun hHeld => ?_)⟩
        clear hK K
        refine norm_ (a' := ?_) ?_ ?_
        rotate_left
        ·show Act.put _ (some 138) _ = _
         simp only [Act.put, List.setIfInBounds_toArray, List.set_cons_zero, List.set_cons_succ]
         rfl
        refine pure_ (i := 9) (N := some 139) (v := ?_) (a' := ?_) #[true, true, true, true, true, true, true, true, true, true, false] rfl rfl (by kernel_rfl) (fun _ _ _ h => h) (Or.inl ⟨by rfl, ?_⟩) ?_ ?_
        rotate_left
        ·intro w'
         go_simp
         with_reducible rfl
        rotate_left
        ·simp only [Act.put, List.setIfInBounds_toArray, List.set_cons_zero, List.set_cons_succ]
         rfl
        refine pure_ (i := 10) (N := some 4) (v := ?_) (a' := ?_) #[true, true, true, true, true, true, true, true, true, true, true] rfl rfl (by kernel_rfl) (fun _ _ _ h => h) (Or.inl ⟨by rfl, ?_⟩) ?_ ?_
        rotate_left
        ·intro w'
         go_simp
         with_reducible rfl
        rotate_left
        ·simp only [Act.put, List.setIfInBounds_toArray, List.set_cons_zero, List.set_cons_succ]
         rfl
        refine done_ (by kernel_rfl) ?_
        clear hHeld
        go_wp2
        go_ret
        exact ⟨rfl, BH_4.out⟩
     | false =>
      rw [show (idle x y n f (-1) false).down = false from rfl]
      have HIV : Aside0 (IV x s) := ⟨HV.out.1.elim id (fun h => absurd h.1 (by simp))⟩
      obtain ⟨ad, B, cB, rfl, c0, c1, c2, c3, hcB, hCB⟩ := at_S (Kd.C_below CA.out HB.out) j hj
      obtain ⟨p, hp⟩ : ∃ p, p = l.getD j z24 := ⟨_, rfl⟩
      have HPL : Aside0 (p.f2.length ≤ 1000000000000000000) := ⟨by rw [hp]; exact HL.out _ (by rw [List.getD_eq_getElem?_getD, List.getElem?_eq_getElem hj]; exact List.getElem_mem hj)⟩
      have CP := Aside0.mk (at_S HC.out j hj)
      rw [← hp] at c0 c1 c2 c3 hcB hCB CP
      have HCB := Aside0.mk hcB
      have HCC := Aside0.mk hCB
      have HPX := Aside0.mk hp
      have HJJ := Aside0.mk hj
      clear hp hcB hCB hj
      go_wp2_with (fail)
      refine (saveA_calls HI.out (fun k hk => ⟨Nat.le_trans HB.out.size hk, by have := HS.out.lt; omega, by have := HT.out.lt; omega⟩) p.f0 p.f1 B p.f2 cB p.f3 HCC.out HCB.out (by have := HIV.out.sz; have := HV.out; omega) (by have := HV.out; have := HJ.out; omega) (by have := HV.out; omega)).mono ?_
      rintro e w7 ⟨rfl, hI, hK⟩
      have I7 := Aside0.mk hI
      have S7 := Aside0.mk (HS.out.step (hK.block _ HS.out.lt (fun h => h.2.1 rfl)))
      have T7 := Aside0.mk (HT.out.step (hK.block _ HT.out.lt (fun h => h.2.2 rfl)))
      have B7 := Aside0.mk (HB.out.trans ((hK.mono (ok' := fun k => wA.heap.size ≤ k) (fun k _ hk => hk.1)).below HB.out.size))
      clear hI hK HI HS HT HB c0 c1 c2 c3 HCB HCC
      obtain ⟨ad', B', cB', e', c0, c1, c2, c3, hcB, hCB⟩ := at_S (Kd.C_below CA.out B7.out) j HJJ.out
      injection e' with e'
      subst e'
      rw [← HPX.out] at c0 c1 c2 c3 hcB hCB
      have HCB := Aside0.mk hcB
      have HCC := Aside0.mk hCB
      have HC0 : Aside0 (Kd.C (Kd.int .i64) w B' p.f2.length p.f2) := ⟨slice_back HC.out BA.out B7.out j HJJ.out HPX.out rfl c2⟩
      clear hcB hCB
      rcases saveA_one x y n f p HV.out.2.1 with ⟨h0, hs⟩ | ⟨hiv, hs⟩ | ⟨x', y', n', hx', hn1, hn2, hy', hs⟩
      ·have I8 : Aside0 (IsD w7 dd (fun k => wA.heap.size ≤ k ∧ k ≠ w4.heap.size ∧ k ≠ w4.heap.size + 1) (idle x y n f (-1) false)) := ⟨by have := I7.out; rw [hs] at this; exact this⟩
       rw [hs]
       obtain ⟨kc, hkc⟩ := (rchk_ev p.f0 p.f1 p.f2 p.f3).rounds
       have hce := chk_err p.f0 p.f1 p.f2 p.f3
       generalize chkS p.f0 p.f1 p.f2 p.f3 = ck at h0 hkc hce ⊢
       have z0 : (ck == 0) = false := beq_eq_false_iff_ne.mpr h0
       have z1 : (ck == 21) = false := beq_eq_false_iff_ne.mpr (by omega)
       have z2 : (ck != ck) = false := by simp
       have HKC := Aside0.mk hkc
       clear h0 hs I7 hkc hce
       go_wp2_with (fail)
       refine (ref_calls p.f0 p.f1 B' p.f2.length cB' p.f3 _).mono ?_
       rintro e w8 ⟨rfl, hb⟩
       have I9 := Aside0.mk (I8.out.below hb)
       have S9 := Aside0.mk (S7.out.step (hb.block _ S7.out.lt))
       have T9 := Aside0.mk (T7.out.step (hb.block _ T7.out.lt))
       have B9 := Aside0.mk (B7.out.trans (hb.mono B7.out.size))
       have C9 := Aside0.mk (Kd.C_below HCC.out hb)
       clear hb I8 S7 T7 B7 c0 c1 c2 c3
       go_wp2_with (fail)
       refine (stowageref07_Check.calls kc p.f0 p.f1 B' cB' p.f2 p.f3 ck _ C9.out HCB.out HKC.out).mono ?_
       rintro e w9 ⟨rfl, hb⟩
       have IA := Aside0.mk (I9.out.below hb)
       have SA := Aside0.mk (S9.out.step (hb.block _ S9.out.lt))
       have TA := Aside0.mk (T9.out.step (hb.block _ T9.out.lt))
       have BB := Aside0.mk (B9.out.trans (hb.mono B9.out.size))
       clear hb I9 S9 T9 B9 C9
       go_wp2
       go_roundg k1
       case measure => have := HJ.out; omega
       case rel => exact ⟨j + 1, x, y, n, f, false, s, t, rfl, ⟨by have := HJ.out; omega, by omega⟩, IA, SA, TA, ⟨Or.inl HIV.out, HV.out.2.1, HV.out.2.2.1, by have := HV.out.2.2.2.1; omega, HV.out.2.2.2.2⟩, BB⟩
      ·have I8 : Aside0 (IsD w7 dd (fun k => wA.heap.size ≤ k ∧ k ≠ w4.heap.size ∧ k ≠ w4.heap.size + 1) (idle (some (frameS (shotT p.f0 p.f1 p.f2 p.f3))) none (n + 2) f (-1) false)) := ⟨by have := I7.out; rw [hs] at this; exact this⟩
       rw [hs]
       have HIP := Aside0.mk hiv
       clear hiv hs I7 HIV
       generalize frameS (shotT p.f0 p.f1 p.f2 p.f3) = F at I8 HIP ⊢
       go_wp2_with (fail)
       refine (ref_calls p.f0 p.f1 B' p.f2.length cB' p.f3 _).mono ?_
       rintro e w8 ⟨rfl, hb⟩
       have I9 := Aside0.mk (I8.out.below hb)
       have S9 := Aside0.mk (S7.out.step (hb.block _ S7.out.lt))
       have T9 := Aside0.mk (T7.out.step (hb.block _ T7.out.lt))
       have B9 := Aside0.mk (B7.out.trans (hb.mono B7.out.size))
       clear hb I8 S7 T7 B7 c0 c1 c2 c3
       obtain ⟨As, cs, k6, _⟩ := S9.out
       have K6 := Aside0.mk k6
       clear k6
       have eK6_0 := (blk_cell K6.out 0).trans rfl
       have eK6_1 := (blk_cell K6.out 1).trans rfl
       have eK6_2 := (blk_cell K6.out 2).trans rfl
       have eK6_3 := (blk_cell K6.out 3).trans rfl
       have fK6_0 := blk_frozen K6.out 0
       have fK6_1 := blk_frozen K6.out 1
       have fK6_2 := blk_frozen K6.out 2
       have fK6_3 := blk_frozen K6.out 3
       go_upto_region 12 with (fail)
       have V := Aside0.mk (blk4 K6.out (.int .i64 p.f0) (.int .i64 p.f1) (.slice B' p.f2.length cB') (.string p.f3))
       have TA := Aside0.mk (T9.out.step (far4 w8 w4.heap.size (.int .i64 p.f0) (.int .i64 p.f1) (.slice B' p.f2.length cB') (.string p.f3) (w4.heap.size + 1) (by omega)))
       have BB := Aside0.mk (below_far4 B9.out L4.out (.int .i64 p.f0) (.int .i64 p.f1) (.slice B' p.f2.length cB') (.string p.f3))
       have IA := Aside0.mk (I9.out.step (fun k hk _ => far4 w8 w4.heap.size (.int .i64 p.f0) (.int .i64 p.f1) (.slice B' p.f2.length cB') (.string p.f3) k hk.2.1))
       clear I9 S9 T9 B9 K6 eK6_0 fK6_0 eK6_1 fK6_1 eK6_2 fK6_2 eK6_3 fK6_3
       generalize ((((w8.setCell ⟨w4.heap.size, 0, none⟩ (.int .i64 p.f0)).setCell ⟨w4.heap.size, 1, none⟩ (.int .i64 p.f1)).setCell ⟨w4.heap.size, 2, none⟩ (.slice B' p.f2.length cB')).setCell ⟨w4.heap.size, 3, none⟩ (.string p.f3)) = w9 at V TA BB IA ⊢
       obtain ⟨At, ct, k7, _⟩ := TA.out
       have K7 := Aside0.mk k7
       clear k7
       have eK7_0 := (blk_cell K7.out 0).trans rfl
       have eK7_1 := (blk_cell K7.out 1).trans rfl
       have eK7_2 := (blk_cell K7.out 2).trans rfl
       have eK7_3 := (blk_cell K7.out 3).trans rfl
       have fK7_0 := blk_frozen K7.out 0
       have fK7_1 := blk_frozen K7.out 1
       have fK7_2 := blk_frozen K7.out 2
       have fK7_3 := blk_frozen K7.out 3
       have eV_0 := (blk_cell V.out 0).trans rfl
       have eV_1 := (blk_cell V.out 1).trans rfl
       have eV_2 := (blk_cell V.out 2).trans rfl
       have eV_3 := (blk_cell V.out 3).trans rfl
       go_wp2
       go_roundg k1
       case measure => have := HJ.out; omega
       case rel => exact ⟨j + 1, some F, none, n + 2, f, false, p, p, rfl, ⟨by have := HJ.out; omega, by omega⟩, ⟨IA.out.step (fun k hk _ => far4 _ _ _ _ _ _ k hk.2.2)⟩, ⟨B', cB', (far4 _ _ _ _ _ _ w4.heap.size (by omega)).trans V.out, HCB.out, HC0.out, HPL.out⟩, ⟨B', cB', blk4 K7.out _ _ _ _, HCB.out, HC0.out, HPL.out⟩, ⟨Or.inl HIP.out, HV.out.2.1, by have := HV.out.2.2.1; omega, by have := HV.out.2.2.2.1; omega, Nat.zero_le _⟩, ⟨below_far4 BB.out (by have := L4.out; omega) _ _ _ _⟩⟩
      ·have I8 : Aside0 (IsD w7 dd (fun k => wA.heap.size ≤ k ∧ k ≠ w4.heap.size ∧ k ≠ w4.heap.size + 1) (idle x' y' n' [] (-1) true)) := ⟨by have := I7.out; rw [hs] at this; exact this⟩
       rw [hs]
       have HX : Aside0 ((IV x' s ∨ IV x' p) ∧ n ≤ n' ∧ n' ≤ n + 1 ∧ osz y' ≤ max (osz y) 131190) := ⟨hx'.elim (fun h => Or.inl (h ▸ HIV.out)) Or.inr, hn1, hn2, hy'⟩
       clear hx' hn1 hn2 hy' hs I7 HIV
       go_wp2_with (fail)
       refine (ref_calls p.f0 p.f1 B' p.f2.length cB' p.f3 _).mono ?_
       rintro e w8 ⟨rfl, hb⟩
       have I9 := Aside0.mk (I8.out.below hb)
       have S9 := Aside0.mk (S7.out.step (hb.block _ S7.out.lt))
       have T9 := Aside0.mk (T7.out.step (hb.block _ T7.out.lt))
       have B9 := Aside0.mk (B7.out.trans (hb.mono B7.out.size))
       clear hb I8 S7 T7 B7 c0 c1 c2 c3
       obtain ⟨At, ct, k7, _⟩ := T9.out
       have K7 := Aside0.mk k7
       clear k7
       have eK7_0 := (blk_cell K7.out 0).trans rfl
       have eK7_1 := (blk_cell K7.out 1).trans rfl
       have eK7_2 := (blk_cell K7.out 2).trans rfl
       have eK7_3 := (blk_cell K7.out 3).trans rfl
       have fK7_0 := blk_frozen K7.out 0
       have fK7_1 := blk_frozen K7.out 1
       have fK7_2 := blk_frozen K7.out 2
       have fK7_3 := blk_frozen K7.out 3
       go_wp2
       go_roundg k1
       case measure => have := HJ.out; omega
       case rel => exact ⟨j + 1, x', y', n', [], true, s, p, rfl, ⟨by have := HJ.out; omega, by omega⟩, ⟨I9.out.step (fun k hk _ => far4 _ _ _ _ _ _ k hk.2.2)⟩, ⟨S9.out.step (far4 _ _ _ _ _ _ w4.heap.size (by omega))⟩, ⟨B', cB', blk4 K7.out _ _ _ _, HCB.out, HC0.out, HPL.out⟩, ⟨HX.out.1.elim Or.inl (fun h => Or.inr ⟨rfl, h⟩), Nat.zero_le _, by have := HV.out.2.2.1; have := HX.out; omega, by have := HV.out.2.2.2.1; have := HX.out; omega, by have := HX.out; have := HV.out.2.2.2.2; omega⟩, ⟨below_far4 B9.out (by have := L4.out; omega) _ _ _ _⟩⟩
    ·have hlt8 : ((j : Int) < (8 : Int)) = False := eq_false (by omega)
     have HVV : Aside0 ((IV x s ∨ IV x t) ∧ f.length ≤ 1 ∧ 0 ≤ n ∧ n ≤ 16 ∧ osz y ≤ 131190) := ⟨HV.out.1.elim Or.inl (fun h => Or.inr h.2), HV.out.2.1, HV.out.2.2.1, by have := HV.out.2.2.2.1; have := HJ.out; omega, HV.out.2.2.2.2⟩
     have HXS : Aside0 (osz x ≤ 131190) := ⟨HVV.out.1.elim IV.sz IV.sz⟩
     have P0 := Aside0.mk ((HB.out.block _ LP.out).trans PA.out)
     have I0 := HI
     have S0 := HS
     have T0 := HT
     have B0 := HB
     clear HV HI HS HT HB HJ
     have q1 := (blk_cell P0.out 1).trans rfl
     have q2 := (blk_cell P0.out 2).trans rfl
     go_wp2_with (fail)
     refine (fail_calls I0.out (fun k hk => ⟨Nat.le_trans B0.out.size hk, by have := S0.out.lt; omega, by have := T0.out.lt; omega⟩) trivial p1 p2).mono ?_
     rintro e w1 ⟨rfl, hI, hK⟩
     rw [fail_any] at hI
     have I1 : Aside0 (IsD w1 dd (fun k => wA.heap.size ≤ k ∧ k ≠ w4.heap.size ∧ k ≠ w4.heap.size + 1) (idle x y n f (-1) true)) := ⟨hI⟩
     have S1 := Aside0.mk (S0.out.step (hK.block _ S0.out.lt (fun h => h.2.1 rfl)))
     have T1 := Aside0.mk (T0.out.step (hK.block _ T0.out.lt (fun h => h.2.2 rfl)))
     have B1 := Aside0.mk (B0.out.trans ((hK.mono (ok' := fun k => wA.heap.size ≤ k) (fun k _ hk => hk.1)).below B0.out.size))
     clear hI hK I0 S0 T0 B0
     clear q1 q2 P0
     go_wp2_with (fail)
     refine (up_calls I1.out).mono ?_
     rintro e wU2 ⟨rfl, hI, hK⟩
     have I2 : Aside0 (IsD wU2 dd (fun k => wA.heap.size ≤ k ∧ k ≠ w4.heap.size ∧ k ≠ w4.heap.size + 1) (idle x y n f (-1) false)) := ⟨hI⟩
     have S2 := Aside0.mk (S1.out.step (hK.block _ S1.out.lt (fun h => h.2.1 rfl)))
     have T2 := Aside0.mk (T1.out.step (hK.block _ T1.out.lt (fun h => h.2.2 rfl)))
     have B2 := Aside0.mk (B1.out.trans ((hK.mono (ok' := fun k => wA.heap.size ≤ k) (fun k _ hk => hk.1)).below B1.out.size))
     clear hI hK I1 S1 T1 B1
     go_upto_region 19 with (fail)
     generalize hz : wU2 = wz at I2 S2 T2 B2 ⊢
     clear hz
     have PZ := Aside0.mk (blk_drew ((B2.out.block _ LP.out).trans PA.out))
     have IZ := Aside0.mk (I2.out.step (W' := wz.drew) (fun _ _ _ => rfl))
     have BZ := Aside0.mk B2.out.drew
     have SZ := Aside0.mk (S2.out.step (w' := wz.drew) rfl)
     have TZ := Aside0.mk (T2.out.step (w' := wz.drew) rfl)
     clear I2 S2 T2 B2
     obtain ⟨hq4, hq5⟩ : wz.drew.cell? ⟨w.heap.size, 4, none⟩ = some (.int .i64 p4) ∧ wz.drew.cell? ⟨w.heap.size, 5, none⟩ = some (.int .i64 p5) := ⟨(blk_cell PZ.out 4).trans rfl, (blk_cell PZ.out 5).trans rfl⟩
     refine start_ (n := 12) (S := (fun w' => w'.cell? ⟨w.heap.size, 4, none⟩ = some (.int .i64 p4) ∧ w'.cell? ⟨w.heap.size, 5, none⟩ = some (.int .i64 p5))) (ds := []) #[false, false, false, false, false, false, false, false, false, false, false, false] (by kernel_rfl) rfl rfl ⟨hq4, hq5⟩ (fun hHeld => ?_)
     generalize wz.drew = wy at PZ IZ BZ SZ TZ hHeld ⊢
     have PY := PZ
     have IY := IZ
     have BY := BZ
     have SY := SZ
     have TY := TZ
     clear PZ IZ BZ SZ TZ
     refine pure_ (i := 0) (N := some 88) (v := ?_) (a' := ?_) #[true, false, false, false, false, false, false, false, false, false, false, false] rfl rfl (by kernel_rfl) (fun _ _ _ h => h) (Or.inl ⟨by rfl, ?_⟩) ?_ ?_
     rotate_left
     ·intro w'
      go_simp
      with_reducible rfl
     rotate_left
     ·simp only [Act.put, List.setIfInBounds_toArray, List.set_cons_zero, List.set_cons_succ]
      rfl
     refine pure_ (i := 1) (N := some 89) (v := ?_) (a' := ?_) #[true, true, false, false, false, false, false, false, false, false, false, false] rfl rfl (by kernel_rfl) (fun _ _ _ h => h) (Or.inl ⟨by rfl, ?_⟩) ?_ ?_
     rotate_left
     ·intro w'
      go_simp
      with_reducible rfl
     rotate_left
     ·simp only [Act.put, List.setIfInBounds_toArray, List.set_cons_zero, List.set_cons_succ]
      rfl
     refine pure_ (i := 3) (N := some 91) (v := ?_) (a' := ?_) #[true, true, false, true, false, false, false, false, false, false, false, false] rfl rfl (by kernel_rfl) (fun _ _ _ h => h) (Or.inl ⟨by rfl, ?_⟩) ?_ ?_
     rotate_left
     ·intro w'
      go_simp
      with_reducible rfl
     rotate_left
     ·simp only [Act.put, List.setIfInBounds_toArray, List.set_cons_zero, List.set_cons_succ]
      rfl
     refine pure_ (i := 4) (N := some 92) (v := ?_) (a' := ?_) #[true, true, false, true, true, false, false, false, false, false, false, false] rfl rfl (by kernel_rfl) (fun _ _ _ h => h) (Or.inl ⟨by rfl, ?_⟩) ?_ ?_
     rotate_left
     ·intro w'
      go_simp
      with_reducible rfl
     rotate_left
     ·simp only [Act.put, List.setIfInBounds_toArray, List.set_cons_zero, List.set_cons_succ]
      rfl
     refine take_ (i := 5) (N := some 93) (v := ?_) (a' := ?_) #[true, true, false, true, true, true, false, false, false, false, false, false] rfl rfl (by kernel_rfl) (fun _ _ _ h => h) (Or.inl ⟨by rfl, ?_⟩) (by first | exact hHeld | assumption) ?_ ?_
     rotate_left
     ·rintro w' ⟨s0, s1⟩
      go_simp
      with_reducible rfl
     rotate_left
     ·simp only [Act.put, List.setIfInBounds_toArray, List.set_cons_zero, List.set_cons_succ]
      rfl
     refine pure_ (i := 6) (N := some 94) (v := ?_) (a' := ?_) #[true, true, false, true, true, true, true, false, false, false, false, false] rfl rfl (by kernel_rfl) (fun _ _ _ h => h) (Or.inl ⟨by rfl, ?_⟩) ?_ ?_
     rotate_left
     ·intro w'
      go_simp
      with_reducible rfl
     rotate_left
     ·simp only [Act.put, List.setIfInBounds_toArray, List.set_cons_zero, List.set_cons_succ]
      rfl
     refine pure_ (i := 7) (N := some 95) (v := ?_) (a' := ?_) #[true, true, false, true, true, true, true, true, false, false, false, false] rfl rfl (by kernel_rfl) (fun _ _ _ h => h) (Or.inl ⟨by rfl, ?_⟩) ?_ ?_
     rotate_left
     ·intro w'
      go_simp
      with_reducible rfl
     rotate_left
     ·simp only [Act.put, List.setIfInBounds_toArray, List.set_cons_zero, List.set_cons_succ]
      rfl
     refine take_ (i := 8) (N := some 96) (v := ?_) (a' := ?_) #[true, true, false, true, true, true, true, true, true, false, false, false] rfl rfl (by kernel_rfl) (fun _ _ _ h => h) (Or.inl ⟨by rfl, ?_⟩) (by first | exact hHeld | assumption) ?_ ?_
     rotate_left
     ·rintro w' ⟨s0, s1⟩
      go_simp
      with_reducible rfl
     rotate_left
     ·simp only [Act.put, List.setIfInBounds_toArray, List.set_cons_zero, List.set_cons_succ]
      rfl
     refine one_ (i := 2) (N := some 90) #[true, true, true, true, true, true, true, true, true, false, false, false] rfl rfl (by kernel_rfl) (by decide) (fun K hK => ?_)
     refine call_ 29 #[.pointer (some ⟨dd, 0, none⟩)] (by rfl) rfl (by first | (go_simp; done) | (go_simp; rfl)) ?_
     refine (changes_calls2 (w := wy) IY.out).mono ?_
     rintro e wc ⟨rfl, rfl⟩
     refine ⟨_, rfl, hK.out _ _ ⟨(blk_cell PY.out 4).trans rfl, (blk_cell PY.out 5).trans rfl⟩ (fun hHeld => ?_)⟩
     clear hK K
     refine norm_ (a' := ?_) ?_ ?_
     rotate_left
     ·show Act.put _ (some 90) _ = _
      simp only [Act.put, List.setIfInBounds_toArray, List.set_cons_zero, List.set_cons_succ]
      rfl
     refine pure_ (i := 9) (N := some 97) (v := ?_) (a' := ?_) #[true, true, true, true, true, true, true, true, true, true, false, false] rfl rfl (by kernel_rfl) (fun _ _ _ h => h) (Or.inl ⟨by rfl, ?_⟩) ?_ ?_
     rotate_left
     ·intro w'
      go_simp
      with_reducible rfl
     rotate_left
     ·simp only [Act.put, List.setIfInBounds_toArray, List.set_cons_zero, List.set_cons_succ]
      rfl
     refine one_ (i := 10) (N := some 98) #[true, true, true, true, true, true, true, true, true, true, true, false] rfl rfl (by kernel_rfl) (by decide) (fun K hK => ?_)
     refine value_ (v := .slice (some ⟨wy.heap.size, 0, none⟩) 1 1) (w1 := wy.alloc (.cells #[.int .i64 n, .int .i64 p4, .int .i64 p5] 51 (0, 0))) (by rfl) rfl (by first | (go_simp; done) | (go_simp; rfl)) ?_
     have hfC := Aside0.mk (fall_one wy ⟨n, p4, p5⟩)
     have bX : Below wy.heap.size wy (wy.alloc (.cells #[.int .i64 n, .int .i64 p4, .int .i64 p5] 51 (0, 0))) := below_alloc (Below.refl _ _) _
     have IX := Aside0.mk (IY.out.below bX)
     have BX := Aside0.mk (BY.out.trans (bX.mono BY.out.size))
     have PX := Aside0.mk ((bX.block _ (blk_lt PY.out)).trans PY.out)
     have SX := Aside0.mk (SY.out.step (bX.block _ SY.out.lt))
     have TX := Aside0.mk (TY.out.step (bX.block _ TY.out.lt))
     clear bX IY BY PY SY TY
     generalize hgx : wy.heap.size = gx at hfC ⊢
     generalize wy.alloc (.cells #[.int .i64 n, .int .i64 p4, .int .i64 p5] 51 (0, 0)) = wx at hfC IX BX PX SX TX ⊢
     refine hK.out _ _ ⟨(blk_cell PX.out 4).trans rfl, (blk_cell PX.out 5).trans rfl⟩ (fun hHeld => ?_)
     clear hK K hgx
     refine norm_ (a' := ?_) ?_ ?_
     rotate_left
     ·show Act.put _ (some 98) _ = _
      simp only [Act.put, List.setIfInBounds_toArray, List.set_cons_zero, List.set_cons_succ]
      rfl
     refine one_ (i := 11) (N := some 99) #[true, true, true, true, true, true, true, true, true, true, true, true] rfl rfl (by kernel_rfl) (by decide) (fun K hK => ?_)
     refine call_ 25 #[.pointer (some ⟨dd, 0, none⟩), .slice (some ⟨gx, 0, none⟩) 1 1] (by rfl) rfl (by first | (go_simp; done) | (go_simp; rfl)) ?_
     refine (plan_calls IX.out (fun k hk => ⟨Nat.le_trans BX.out.size hk, by have := SX.out.lt; omega, by have := TX.out.lt; omega⟩) (some ⟨gx, 0, none⟩) 1 [⟨n, p4, p5⟩] hfC.out (by show 1 * 24 ≤ _; decide)).mono ?_
     rintro e wp ⟨rfl, hI, hKp⟩
     have I3 : Aside0 (IsD wp dd (fun k => wA.heap.size ≤ k ∧ k ≠ w4.heap.size ∧ k ≠ w4.heap.size + 1) (idle x y n [⟨n, p4, p5⟩] (-1) false)) := ⟨hI⟩
     have S3 := Aside0.mk (SX.out.step (hKp.block _ SX.out.lt (fun h => h.2.1 rfl)))
     have T3 := Aside0.mk (TX.out.step (hKp.block _ TX.out.lt (fun h => h.2.2 rfl)))
     have B3 := Aside0.mk (BX.out.trans ((hKp.mono (ok' := fun k => wA.heap.size ≤ k) (fun k _ hk => hk.1)).below BX.out.size))
     have P3 := Aside0.mk ((B3.out.block _ LP.out).trans PA.out)
     clear hI hKp IX BX PX SX TX hfC
     refine ⟨_, rfl, hK.out _ _ ⟨(blk_cell P3.out 4).trans rfl, (blk_cell P3.out 5).trans rfl⟩ (fun hHeld => ?_)⟩
     clear hK K
     refine norm_ (a' := ?_) ?_ ?_
     rotate_left
     ·show Act.put _ (some 99) _ = _
      simp only [Act.put, List.setIfInBounds_toArray, List.set_cons_zero, List.set_cons_succ]
      rfl
     refine done_ (by kernel_rfl) ?_
     clear hHeld
     obtain ⟨y1, n1, f1, dn1, e1, hlk, hy1, hn1⟩ := load_one x y n [⟨n, p4, p5⟩]
     have HLK := Aside0.mk hlk
     have HY1 : Aside0 (osz y1 ≤ 131190 ∧ 0 ≤ n1 ∧ n1 ≤ 17) := ⟨by have := HVV.out; omega, by have := HVV.out; omega, by have := HVV.out; omega⟩
     obtain ⟨R1, hR1⟩ : ∃ R : (Int × Int × List Int × ByteArray) × Bool × Int, R = if (loadK (idle x y n [⟨n, p4, p5⟩] (-1) false)).2 = 0 then loadR x else noL (loadK (idle x y n [⟨n, p4, p5⟩] (-1) false)).2 := ⟨_, rfl⟩
     have HR1 := Aside0.mk hR1
     clear hlk hy1 hn1 P3 hR1
     go_wp2_with (fail)
     refine (load_calls I3.out (fun k hk => ⟨Nat.le_trans B3.out.size hk, by have := S3.out.lt; omega, by have := T3.out.lt; omega⟩) (by have := HXS.out; omega) (by have := HXS.out; have := HVV.out; omega) (by have := HVV.out; omega) (by show 1 ≤ _; decide) R1 HR1.out).mono ?_
     rintro e w6 ⟨v6, rfl, _, hI, hK⟩
     rw [HLK.out] at hI
     have I6 : Aside0 (IsD w6 dd (fun k => wA.heap.size ≤ k ∧ k ≠ w4.heap.size ∧ k ≠ w4.heap.size + 1) (idle x y1 n1 f1 (-1) dn1)) := ⟨hI⟩
     have S6 := Aside0.mk (S3.out.step (hK.block _ S3.out.lt (fun h => h.2.1 rfl)))
     have T6 := Aside0.mk (T3.out.step (hK.block _ T3.out.lt (fun h => h.2.2 rfl)))
     have B6 := Aside0.mk (B3.out.trans ((hK.mono (ok' := fun k => wA.heap.size ≤ k) (fun k _ hk => hk.1)).below B3.out.size))
     clear hI hK I3 S3 T3 B3 HR1
     go_wp2_with (fail)
     refine (plan_calls I6.out (fun k hk => ⟨Nat.le_trans B6.out.size hk, by have := S6.out.lt; omega, by have := T6.out.lt; omega⟩) none 0 [] (Kd.C_nil _ _) (by decide)).mono ?_
     rintro e w7 ⟨rfl, hI, hK⟩
     have I7 : Aside0 (IsD w7 dd (fun k => wA.heap.size ≤ k ∧ k ≠ w4.heap.size ∧ k ≠ w4.heap.size + 1) (idle x y1 n1 [] (-1) dn1)) := ⟨hI⟩
     have S7 := Aside0.mk (S6.out.step (hK.block _ S6.out.lt (fun h => h.2.1 rfl)))
     have T7 := Aside0.mk (T6.out.step (hK.block _ T6.out.lt (fun h => h.2.2 rfl)))
     have B7 := Aside0.mk (B6.out.trans ((hK.mono (ok' := fun k => wA.heap.size ≤ k) (fun k _ hk => hk.1)).below B6.out.size))
     clear hI hK I6 S6 T6 B6
     have P7 := Aside0.mk ((B7.out.block _ LP.out).trans PA.out)
     have q4 := (blk_cell P7.out 4).trans rfl
     have q5 := (blk_cell P7.out 5).trans rfl
     go_wp2_with (fail)
     refine (fail_calls I7.out (fun k hk => ⟨Nat.le_trans B7.out.size hk, by have := S7.out.lt; omega, by have := T7.out.lt; omega⟩) trivial p4 p5).mono ?_
     rintro e w8 ⟨rfl, hI, hK⟩
     rw [fail_any] at hI
     have I8 : Aside0 (IsD w8 dd (fun k => wA.heap.size ≤ k ∧ k ≠ w4.heap.size ∧ k ≠ w4.heap.size + 1) (idle x y1 n1 [] (-1) true)) := ⟨hI⟩
     have S8 := Aside0.mk (S7.out.step (hK.block _ S7.out.lt (fun h => h.2.1 rfl)))
     have T8 := Aside0.mk (T7.out.step (hK.block _ T7.out.lt (fun h => h.2.2 rfl)))
     have B8 := Aside0.mk (B7.out.trans ((hK.mono (ok' := fun k => wA.heap.size ≤ k) (fun k _ hk => hk.1)).below B7.out.size))
     clear hI hK I7 S7 T7 B7
     clear q4 q5 P7
     go_wp2_with (fail)
     refine (up_calls I8.out).mono ?_
     rintro e w9 ⟨rfl, hI, hK⟩
     have I9 : Aside0 (IsD w9 dd (fun k => wA.heap.size ≤ k ∧ k ≠ w4.heap.size ∧ k ≠ w4.heap.size + 1) (idle x y1 n1 [] (-1) false)) := ⟨hI⟩
     have S9 := Aside0.mk (S8.out.step (hK.block _ S8.out.lt (fun h => h.2.1 rfl)))
     have T9 := Aside0.mk (T8.out.step (hK.block _ T8.out.lt (fun h => h.2.2 rfl)))
     have B9 := Aside0.mk (B8.out.trans ((hK.mono (ok' := fun k => wA.heap.size ≤ k) (fun k _ hk => hk.1)).below B8.out.size))
     clear hI hK I8 S8 T8 B8
     obtain ⟨n2, hl2⟩ := load_nofall x y1 n1 (-1)
     obtain ⟨u, hu0, hst⟩ : ∃ u, IV x u ∧ (u = s ∨ u = t) := HVV.out.1.elim (fun h => ⟨s, h, Or.inl rfl⟩) (fun h => ⟨t, h, Or.inr rfl⟩)
     have HR2 : Aside0 (((u.f0, u.f1, u.f2, u.f3), !(u.f2.length == 0), 0) = if (loadK (idle x y1 n1 [] (-1) false)).2 = 0 then loadR x else noL (loadK (idle x y1 n1 [] (-1) false)).2) := ⟨by rw [hl2]; exact hu0.load.symm⟩
     clear hl2 hu0
     go_wp2_with (fail)
     refine (load_calls I9.out (fun k hk => ⟨Nat.le_trans B9.out.size hk, by have := S9.out.lt; omega, by have := T9.out.lt; omega⟩) (by have := HXS.out; omega) (by have := HXS.out; have := HY1.out; omega) (by have := HY1.out; omega) (by decide) _ HR2.out).mono ?_
     rintro e wa ⟨va, rfl, hR, _, hK⟩
     obtain ⟨Au, cu, eu, hlu, hCu⟩ := Kd.R_reads hR
     subst eu
     have Sa := Aside0.mk (S9.out.step (hK.block _ S9.out.lt (fun h => h.2.1 rfl)))
     have Ta := Aside0.mk (T9.out.step (hK.block _ T9.out.lt (fun h => h.2.2 rfl)))
     have Ba := Aside0.mk (B9.out.trans ((hK.mono (ok' := fun k => wA.heap.size ≤ k) (fun k _ hk => hk.1)).below B9.out.size))
     have LCU := Aside0.mk hlu
     have CU := Aside0.mk hCu
     have bb : Below wa.heap.size wa (wa.alloc (.cells #[.int .i64 u.f0, .int .i64 u.f1, .slice Au u.f2.length cu, .string u.f3] 24 (0, 0))) := below_alloc (Below.refl _ _) _
     have ZB := Aside0.mk (heap_alloc_new wa (.cells #[.int .i64 u.f0, .int .i64 u.f1, .slice Au u.f2.length cu, .string u.f3] 24 (0, 0)))
     have SB := Aside0.mk (Sa.out.step (bb.block _ Sa.out.lt))
     have TB := Aside0.mk (Ta.out.step (bb.block _ Ta.out.lt))
     have BB := Aside0.mk (Ba.out.trans (bb.mono Ba.out.size))
     have DB := Aside0.mk bb
     clear hR hK hlu hCu bb I9 S9 T9 B9 Sa Ta Ba HR2
     obtain ⟨Ls, hLs⟩ : ∃ n : Nat, n = u.f2.length := ⟨_, rfl⟩
     have eZB_0 := (blk_cell ZB.out 0).trans rfl
     have eZB_1 := (blk_cell ZB.out 1).trans rfl
     have eZB_2 := (blk_cell ZB.out 2).trans rfl
     have eZB_3 := (blk_cell ZB.out 3).trans rfl
     have hlen : (u.f2.length = 0 ∧ (!(u.f2.length == 0)) = false) ∨ (0 < u.f2.length ∧ (!(u.f2.length == 0)) = true) := by
      rcases Nat.eq_zero_or_pos u.f2.length with h | h
      ·exact Or.inl ⟨h, by rw [h]; rfl⟩
      ·exact Or.inr ⟨h, by rw [show (u.f2.length == 0) = false from beq_eq_false_iff_ne.mpr (by omega)]; rfl⟩
     clear hLs
     rcases hlen with ⟨hl0, hl1⟩ | ⟨hl0, hl1⟩
     ·have g0 : ((u.f2.length : Int) > 0) = False := eq_false (by omega)
      have g1 : (0 < (u.f2.length : Int)) = False := eq_false (by omega)
      have g2 : (0 < u.f2.length) = False := eq_false (by omega)
      rw [hl1]
      clear hl0 hl1
      go_upto_region 27 with (fail)
      generalize wa.alloc (.cells #[.int .i64 u.f0, .int .i64 u.f1, .slice Au u.f2.length cu, .string u.f3] 24 (0, 0)) = wE at ZB SB TB BB DB ⊢
      obtain ⟨As, cs, s6, hcs, hCs, hls⟩ := SB.out
      obtain ⟨At, ct, t7, hct, hCt, hlt7⟩ := TB.out
      have BE := Aside0.mk (BA.out.trans (BB.out.mono BA.out.size))
      have CS := Aside0.mk hCs
      have CT := Aside0.mk hCt
      have LCS := Aside0.mk hcs
      have LCT := Aside0.mk hct
      have UH_0 := Aside0.mk (blk_drew ZB.out)
      have SH_0 := Aside0.mk (blk_drew s6)
      have TH_0 := Aside0.mk (blk_drew t7)
      have BH_0 := Aside0.mk (below_drew1 BE.out)
      have EH_0 : Aside0 (Below w.heap.size w wE.drew) := ⟨below_drew1 BE.out⟩
      have DH_0 := Aside0.mk DB.out.drew
      have hul : u.f2.length ≤ 1000000000000000000 := hst.elim (fun h => h ▸ hls) (fun h => h ▸ hlt7)
      have hsm := same_ev u.f0 u.f1 u.f2 u.f3 s.f0 s.f1 s.f2 s.f3 hul
      have htm : u = t → Ev (fun k => stowageref07_Same.f k u.f0 u.f1 u.f2 u.f3 t.f0 t.f1 t.f2 t.f3) true := fun h => by
       have := same_ev u.f0 u.f1 u.f2 u.f3 t.f0 t.f1 t.f2 t.f3 hul
       rw [h, sameS_refl] at this
       rw [h]; exact this
      have hv : sameS u.f0 u.f1 u.f2 u.f3 s.f0 s.f1 s.f2 s.f3 = true ∨ (sameS u.f0 u.f1 u.f2 u.f3 s.f0 s.f1 s.f2 s.f3 = false ∧ u = t) := by
       rcases hst with h | h
       ·left; rw [h]; exact sameS_refl _ _ _ _
       ·cases hx : sameS u.f0 u.f1 u.f2 u.f3 s.f0 s.f1 s.f2 s.f3 with
        | true => exact Or.inl rfl
        | false => exact Or.inr ⟨rfl, h⟩
      clear hst hls hlt7 hul SB TB ZB DB BB s6 t7 hcs hct hCs hCt
      rcases hv with hv | ⟨hv, hut⟩
      ·rw [hv] at hsm
       obtain ⟨k4, hk4⟩ := hsm.rounds
       have HSM := Aside0.mk hk4
       clear hsm htm hv hk4
       refine start_ (n := 11) (S := (fun w' => w'.cell? ⟨wa.heap.size, 0, none⟩ = some (.int .i64 u.f0) ∧ w'.cell? ⟨wa.heap.size, 1, none⟩ = some (.int .i64 u.f1) ∧ w'.cell? ⟨wa.heap.size, 2, none⟩ = some (.slice Au u.f2.length cu) ∧ w'.cell? ⟨wa.heap.size, 3, none⟩ = some (.string u.f3) ∧ w'.cell? ⟨w4.heap.size, 0, none⟩ = some (.int .i64 s.f0) ∧ w'.cell? ⟨w4.heap.size, 1, none⟩ = some (.int .i64 s.f1) ∧ w'.cell? ⟨w4.heap.size, 2, none⟩ = some (.slice As s.f2.length cs) ∧ w'.cell? ⟨w4.heap.size, 3, none⟩ = some (.string s.f3) ∧ w'.cell? ⟨w4.heap.size + 1, 0, none⟩ = some (.int .i64 t.f0) ∧ w'.cell? ⟨w4.heap.size + 1, 1, none⟩ = some (.int .i64 t.f1) ∧ w'.cell? ⟨w4.heap.size + 1, 2, none⟩ = some (.slice At t.f2.length ct) ∧ w'.cell? ⟨w4.heap.size + 1, 3, none⟩ = some (.string t.f3))) (ds := []) #[false, false, false, false, false, false, false, false, false, false, false] (by kernel_rfl) rfl rfl ⟨(blk_cell UH_0.out 0).trans rfl, (blk_cell UH_0.out 1).trans rfl, (blk_cell UH_0.out 2).trans rfl, (blk_cell UH_0.out 3).trans rfl, (blk_cell SH_0.out 0).trans rfl, (blk_cell SH_0.out 1).trans rfl, (blk_cell SH_0.out 2).trans rfl, (blk_cell SH_0.out 3).trans rfl, (blk_cell TH_0.out 0).trans rfl, (blk_cell TH_0.out 1).trans rfl, (blk_cell TH_0.out 2).trans rfl, (blk_cell TH_0.out 3).trans rfl⟩ (fun hHeld => ?_)
       refine take_ (i := 0) (N := some 130) (v := ?_) (a' := ?_) #[true, false, false, false, false, false, false, false, false, false, false] rfl rfl (by kernel_rfl) (fun _ _ _ h => h) (Or.inl ⟨by rfl, ?_⟩) (by first | exact hHeld | assumption) ?_ ?_
       rotate_left
       ·rintro w' ⟨s0, s1, s2, s3, s4, s5, s6, s7, s8, s9, s10, s11⟩
        go_simp
        with_reducible rfl
       rotate_left
       ·simp only [Act.put, List.setIfInBounds_toArray, List.set_cons_zero, List.set_cons_succ]
        rfl
       refine take_ (i := 2) (N := some 132) (v := ?_) (a' := ?_) #[true, false, true, false, false, false, false, false, false, false, false] rfl rfl (by kernel_rfl) (fun _ _ _ h => h) (Or.inl ⟨by rfl, ?_⟩) (by first | exact hHeld | assumption) ?_ ?_
       rotate_left
       ·rintro w' ⟨s0, s1, s2, s3, s4, s5, s6, s7, s8, s9, s10, s11⟩
        go_simp
        with_reducible rfl
       rotate_left
       ·simp only [Act.put, List.setIfInBounds_toArray, List.set_cons_zero, List.set_cons_succ]
        rfl
       refine one_ (i := 1) (N := some 131) #[true, true, true, false, false, false, false, false, false, false, false] rfl rfl (by kernel_rfl) (by decide) (fun K hK => ?_)
       refine call_ 13 #[.agg #[.int .i64 u.f0, .int .i64 u.f1, .slice Au u.f2.length cu, .string u.f3]] (by rfl) rfl (by first | (go_simp; done) | (go_simp; rfl)) ?_
       refine (ref_calls u.f0 u.f1 Au u.f2.length cu u.f3 wE.drew).mono ?_
       rintro e wh1 ⟨rfl, hbh0⟩
       have UH_1 := Aside0.mk (blk_below UH_0.out hbh0)
       have SH_1 := Aside0.mk (blk_below SH_0.out hbh0)
       have TH_1 := Aside0.mk (blk_below TH_0.out hbh0)
       have BH_1 := Aside0.mk (below_step BH_0.out hbh0)
       have EH_1 := Aside0.mk (EH_0.out.trans (hbh0.mono EH_0.out.size))
       have DH_1 := Aside0.mk (DH_0.out.trans (hbh0.mono DH_0.out.size))
       clear hbh0
       refine ⟨_, rfl, hK.out _ _ ⟨(blk_cell UH_1.out 0).trans rfl, (blk_cell UH_1.out 1).trans rfl, (blk_cell UH_1.out 2).trans rfl, (blk_cell UH_1.out 3).trans rfl, (blk_cell SH_1.out 0).trans rfl, (blk_cell SH_1.out 1).trans rfl, (blk_cell SH_1.out 2).trans rfl, (blk_cell SH_1.out 3).trans rfl, (blk_cell TH_1.out 0).trans rfl, (blk_cell TH_1.out 1).trans rfl, (blk_cell TH_1.out 2).trans rfl, (blk_cell TH_1.out 3).trans rfl⟩ (fun hHeld => ?_)⟩
       clear hK K
       refine norm_ (a' := ?_) ?_ ?_
       rotate_left
       ·show Act.put _ (some 131) _ = _
        simp only [Act.put, List.setIfInBounds_toArray, List.set_cons_zero, List.set_cons_succ]
        rfl
       refine one_ (i := 3) (N := some 133) #[true, true, true, true, false, false, false, false, false, false, false] rfl rfl (by kernel_rfl) (by decide) (fun K hK => ?_)
       refine call_ 19 #[.agg #[.int .i64 u.f0, .int .i64 u.f1, .slice Au u.f2.length cu, .string u.f3], .agg #[.int .i64 s.f0, .int .i64 s.f1, .slice As s.f2.length cs, .string s.f3]] (by rfl) rfl (by first | (go_simp; done) | (go_simp; rfl)) ?_
       refine (stowageref07_Same.calls k4 u.f0 u.f1 Au cu u.f2 u.f3 s.f0 s.f1 As cs s.f2 s.f3 true wh1 (Kd.C_below CU.out DH_1.out) LCU.out (Kd.C_below CS.out EH_1.out) LCS.out HSM.out).mono ?_
       rintro e wh2 ⟨rfl, hbh1⟩
       have UH_2 := Aside0.mk (blk_below UH_1.out hbh1)
       have SH_2 := Aside0.mk (blk_below SH_1.out hbh1)
       have TH_2 := Aside0.mk (blk_below TH_1.out hbh1)
       have BH_2 := Aside0.mk (below_step BH_1.out hbh1)
       have EH_2 := Aside0.mk (EH_1.out.trans (hbh1.mono EH_1.out.size))
       have DH_2 := Aside0.mk (DH_1.out.trans (hbh1.mono DH_1.out.size))
       clear hbh1
       refine ⟨_, rfl, hK.out _ _ ⟨(blk_cell UH_2.out 0).trans rfl, (blk_cell UH_2.out 1).trans rfl, (blk_cell UH_2.out 2).trans rfl, (blk_cell UH_2.out 3).trans rfl, (blk_cell SH_2.out 0).trans rfl, (blk_cell SH_2.out 1).trans rfl, (blk_cell SH_2.out 2).trans rfl, (blk_cell SH_2.out 3).trans rfl, (blk_cell TH_2.out 0).trans rfl, (blk_cell TH_2.out 1).trans rfl, (blk_cell TH_2.out 2).trans rfl, (blk_cell TH_2.out 3).trans rfl⟩ (fun hHeld => ?_)⟩
       clear hK K
       refine norm_ (a' := ?_) ?_ ?_
       rotate_left
       ·show Act.put _ (some 133) _ = _
        simp only [Act.put, List.setIfInBounds_toArray, List.set_cons_zero, List.set_cons_succ]
        rfl
       refine pure_ (i := 4) (N := some 134) (v := ?_) (a' := ?_) #[true, true, true, true, true, false, false, false, false, false, false] rfl rfl (by kernel_rfl) (fun _ _ _ h => h) (Or.inl ⟨by rfl, ?_⟩) ?_ ?_
       rotate_left
       ·intro w'
        go_simp
        with_reducible rfl
       rotate_left
       ·simp only [Act.put, List.setIfInBounds_toArray, List.set_cons_zero, List.set_cons_succ]
        rfl
       refine pure_ (i := 5) (N := some 135) (v := undef) (a' := ?_) #[true, true, true, true, true, true, false, false, false, false, false] rfl rfl (by kernel_rfl) (fun _ _ _ h => h) (Or.inr ⟨by rfl, rfl⟩) ?_ ?_
       rotate_left
       ·simp only [Act.put, List.setIfInBounds_toArray, List.set_cons_zero, List.set_cons_succ]
        rfl
       refine pure_ (i := 6) (N := some 136) (v := undef) (a' := ?_) #[true, true, true, true, true, true, true, false, false, false, false] rfl rfl (by kernel_rfl) (fun _ _ _ h => h) (Or.inr ⟨by rfl, rfl⟩) ?_ ?_
       rotate_left
       ·simp only [Act.put, List.setIfInBounds_toArray, List.set_cons_zero, List.set_cons_succ]
        rfl
       refine pure_ (i := 7) (N := some 137) (v := undef) (a' := ?_) #[true, true, true, true, true, true, true, true, false, false, false] rfl rfl (by kernel_rfl) (fun _ _ _ h => h) (Or.inr ⟨by rfl, rfl⟩) ?_ ?_
       rotate_left
       ·simp only [Act.put, List.setIfInBounds_toArray, List.set_cons_zero, List.set_cons_succ]
        rfl
       refine pure_ (i := 8) (N := some 138) (v := undef) (a' := ?_) #[true, true, true, true, true, true, true, true, true, false, false] rfl rfl (by kernel_rfl) (fun _ _ _ h => h) (Or.inr ⟨by rfl, rfl⟩) ?_ ?_
       rotate_left
       ·simp only [Act.put, List.setIfInBounds_toArray, List.set_cons_zero, List.set_cons_succ]
        rfl
       refine pure_ (i := 9) (N := some 139) (v := ?_) (a' := ?_) #[true, true, true, true, true, true, true, true, true, true, false] rfl rfl (by kernel_rfl) (fun _ _ _ h => h) (Or.inl ⟨by rfl, ?_⟩) ?_ ?_
       rotate_left
       ·intro w'
        go_simp
        with_reducible rfl
       rotate_left
       ·simp only [Act.put, List.setIfInBounds_toArray, List.set_cons_zero, List.set_cons_succ]
        rfl
       refine pure_ (i := 10) (N := some 4) (v := ?_) (a' := ?_) #[true, true, true, true, true, true, true, true, true, true, true] rfl rfl (by kernel_rfl) (fun _ _ _ h => h) (Or.inl ⟨by rfl, ?_⟩) ?_ ?_
       rotate_left
       ·intro w'
        go_simp
        with_reducible rfl
       rotate_left
       ·simp only [Act.put, List.setIfInBounds_toArray, List.set_cons_zero, List.set_cons_succ]
        rfl
       refine done_ (by kernel_rfl) ?_
       clear hHeld
       go_wp2
       go_ret
       exact ⟨rfl, BH_2.out⟩
      ·rw [hv] at hsm
       obtain ⟨k4, hk4⟩ := hsm.rounds
       obtain ⟨k5, hk5⟩ := (htm hut).rounds
       have HSM := Aside0.mk hk4
       have HTM := Aside0.mk hk5
       clear hsm htm hv hk4 hk5 hut
       refine start_ (n := 11) (S := (fun w' => w'.cell? ⟨wa.heap.size, 0, none⟩ = some (.int .i64 u.f0) ∧ w'.cell? ⟨wa.heap.size, 1, none⟩ = some (.int .i64 u.f1) ∧ w'.cell? ⟨wa.heap.size, 2, none⟩ = some (.slice Au u.f2.length cu) ∧ w'.cell? ⟨wa.heap.size, 3, none⟩ = some (.string u.f3) ∧ w'.cell? ⟨w4.heap.size, 0, none⟩ = some (.int .i64 s.f0) ∧ w'.cell? ⟨w4.heap.size, 1, none⟩ = some (.int .i64 s.f1) ∧ w'.cell? ⟨w4.heap.size, 2, none⟩ = some (.slice As s.f2.length cs) ∧ w'.cell? ⟨w4.heap.size, 3, none⟩ = some (.string s.f3) ∧ w'.cell? ⟨w4.heap.size + 1, 0, none⟩ = some (.int .i64 t.f0) ∧ w'.cell? ⟨w4.heap.size + 1, 1, none⟩ = some (.int .i64 t.f1) ∧ w'.cell? ⟨w4.heap.size + 1, 2, none⟩ = some (.slice At t.f2.length ct) ∧ w'.cell? ⟨w4.heap.size + 1, 3, none⟩ = some (.string t.f3))) (ds := []) #[false, false, false, false, false, false, false, false, false, false, false] (by kernel_rfl) rfl rfl ⟨(blk_cell UH_0.out 0).trans rfl, (blk_cell UH_0.out 1).trans rfl, (blk_cell UH_0.out 2).trans rfl, (blk_cell UH_0.out 3).trans rfl, (blk_cell SH_0.out 0).trans rfl, (blk_cell SH_0.out 1).trans rfl, (blk_cell SH_0.out 2).trans rfl, (blk_cell SH_0.out 3).trans rfl, (blk_cell TH_0.out 0).trans rfl, (blk_cell TH_0.out 1).trans rfl, (blk_cell TH_0.out 2).trans rfl, (blk_cell TH_0.out 3).trans rfl⟩ (fun hHeld => ?_)
       refine take_ (i := 0) (N := some 130) (v := ?_) (a' := ?_) #[true, false, false, false, false, false, false, false, false, false, false] rfl rfl (by kernel_rfl) (fun _ _ _ h => h) (Or.inl ⟨by rfl, ?_⟩) (by first | exact hHeld | assumption) ?_ ?_
       rotate_left
       ·rintro w' ⟨s0, s1, s2, s3, s4, s5, s6, s7, s8, s9, s10, s11⟩
        go_simp
        with_reducible rfl
       rotate_left
       ·simp only [Act.put, List.setIfInBounds_toArray, List.set_cons_zero, List.set_cons_succ]
        rfl
       refine take_ (i := 2) (N := some 132) (v := ?_) (a' := ?_) #[true, false, true, false, false, false, false, false, false, false, false] rfl rfl (by kernel_rfl) (fun _ _ _ h => h) (Or.inl ⟨by rfl, ?_⟩) (by first | exact hHeld | assumption) ?_ ?_
       rotate_left
       ·rintro w' ⟨s0, s1, s2, s3, s4, s5, s6, s7, s8, s9, s10, s11⟩
        go_simp
        with_reducible rfl
       rotate_left
       ·simp only [Act.put, List.setIfInBounds_toArray, List.set_cons_zero, List.set_cons_succ]
        rfl
       refine one_ (i := 1) (N := some 131) #[true, true, true, false, false, false, false, false, false, false, false] rfl rfl (by kernel_rfl) (by decide) (fun K hK => ?_)
       refine call_ 13 #[.agg #[.int .i64 u.f0, .int .i64 u.f1, .slice Au u.f2.length cu, .string u.f3]] (by rfl) rfl (by first | (go_simp; done) | (go_simp; rfl)) ?_
       refine (ref_calls u.f0 u.f1 Au u.f2.length cu u.f3 wE.drew).mono ?_
       rintro e wh1 ⟨rfl, hbh0⟩
       have UH_1 := Aside0.mk (blk_below UH_0.out hbh0)
       have SH_1 := Aside0.mk (blk_below SH_0.out hbh0)
       have TH_1 := Aside0.mk (blk_below TH_0.out hbh0)
       have BH_1 := Aside0.mk (below_step BH_0.out hbh0)
       have EH_1 := Aside0.mk (EH_0.out.trans (hbh0.mono EH_0.out.size))
       have DH_1 := Aside0.mk (DH_0.out.trans (hbh0.mono DH_0.out.size))
       clear hbh0
       refine ⟨_, rfl, hK.out _ _ ⟨(blk_cell UH_1.out 0).trans rfl, (blk_cell UH_1.out 1).trans rfl, (blk_cell UH_1.out 2).trans rfl, (blk_cell UH_1.out 3).trans rfl, (blk_cell SH_1.out 0).trans rfl, (blk_cell SH_1.out 1).trans rfl, (blk_cell SH_1.out 2).trans rfl, (blk_cell SH_1.out 3).trans rfl, (blk_cell TH_1.out 0).trans rfl, (blk_cell TH_1.out 1).trans rfl, (blk_cell TH_1.out 2).trans rfl, (blk_cell TH_1.out 3).trans rfl⟩ (fun hHeld => ?_)⟩
       clear hK K
       refine norm_ (a' := ?_) ?_ ?_
       rotate_left
       ·show Act.put _ (some 131) _ = _
        simp only [Act.put, List.setIfInBounds_toArray, List.set_cons_zero, List.set_cons_succ]
        rfl
       refine one_ (i := 3) (N := some 133) #[true, true, true, true, false, false, false, false, false, false, false] rfl rfl (by kernel_rfl) (by decide) (fun K hK => ?_)
       refine call_ 19 #[.agg #[.int .i64 u.f0, .int .i64 u.f1, .slice Au u.f2.length cu, .string u.f3], .agg #[.int .i64 s.f0, .int .i64 s.f1, .slice As s.f2.length cs, .string s.f3]] (by rfl) rfl (by first | (go_simp; done) | (go_simp; rfl)) ?_
       refine (stowageref07_Same.calls k4 u.f0 u.f1 Au cu u.f2 u.f3 s.f0 s.f1 As cs s.f2 s.f3 false wh1 (Kd.C_below CU.out DH_1.out) LCU.out (Kd.C_below CS.out EH_1.out) LCS.out HSM.out).mono ?_
       rintro e wh2 ⟨rfl, hbh1⟩
       have UH_2 := Aside0.mk (blk_below UH_1.out hbh1)
       have SH_2 := Aside0.mk (blk_below SH_1.out hbh1)
       have TH_2 := Aside0.mk (blk_below TH_1.out hbh1)
       have BH_2 := Aside0.mk (below_step BH_1.out hbh1)
       have EH_2 := Aside0.mk (EH_1.out.trans (hbh1.mono EH_1.out.size))
       have DH_2 := Aside0.mk (DH_1.out.trans (hbh1.mono DH_1.out.size))
       clear hbh1
       refine ⟨_, rfl, hK.out _ _ ⟨(blk_cell UH_2.out 0).trans rfl, (blk_cell UH_2.out 1).trans rfl, (blk_cell UH_2.out 2).trans rfl, (blk_cell UH_2.out 3).trans rfl, (blk_cell SH_2.out 0).trans rfl, (blk_cell SH_2.out 1).trans rfl, (blk_cell SH_2.out 2).trans rfl, (blk_cell SH_2.out 3).trans rfl, (blk_cell TH_2.out 0).trans rfl, (blk_cell TH_2.out 1).trans rfl, (blk_cell TH_2.out 2).trans rfl, (blk_cell TH_2.out 3).trans rfl⟩ (fun hHeld => ?_)⟩
       clear hK K
       refine norm_ (a' := ?_) ?_ ?_
       rotate_left
       ·show Act.put _ (some 133) _ = _
        simp only [Act.put, List.setIfInBounds_toArray, List.set_cons_zero, List.set_cons_succ]
        rfl
       refine pure_ (i := 4) (N := some 134) (v := ?_) (a' := ?_) #[true, true, true, true, true, false, false, false, false, false, false] rfl rfl (by kernel_rfl) (fun _ _ _ h => h) (Or.inl ⟨by rfl, ?_⟩) ?_ ?_
       rotate_left
       ·intro w'
        go_simp
        with_reducible rfl
       rotate_left
       ·simp only [Act.put, List.setIfInBounds_toArray, List.set_cons_zero, List.set_cons_succ]
        rfl
       refine take_ (i := 5) (N := some 135) (v := ?_) (a' := ?_) #[true, true, true, true, true, true, false, false, false, false, false] rfl rfl (by kernel_rfl) (fun _ _ _ h => h) (Or.inl ⟨by rfl, ?_⟩) (by first | exact hHeld | assumption) ?_ ?_
       rotate_left
       ·rintro w' ⟨s0, s1, s2, s3, s4, s5, s6, s7, s8, s9, s10, s11⟩
        go_simp
        with_reducible rfl
       rotate_left
       ·simp only [Act.put, List.setIfInBounds_toArray, List.set_cons_zero, List.set_cons_succ]
        rfl
       refine take_ (i := 7) (N := some 137) (v := ?_) (a' := ?_) #[true, true, true, true, true, true, false, true, false, false, false] rfl rfl (by kernel_rfl) (fun _ _ _ h => h) (Or.inl ⟨by rfl, ?_⟩) (by first | exact hHeld | assumption) ?_ ?_
       rotate_left
       ·rintro w' ⟨s0, s1, s2, s3, s4, s5, s6, s7, s8, s9, s10, s11⟩
        go_simp
        with_reducible rfl
       rotate_left
       ·simp only [Act.put, List.setIfInBounds_toArray, List.set_cons_zero, List.set_cons_succ]
        rfl
       refine one_ (i := 6) (N := some 136) #[true, true, true, true, true, true, true, true, false, false, false] rfl rfl (by kernel_rfl) (by decide) (fun K hK => ?_)
       refine call_ 13 #[.agg #[.int .i64 u.f0, .int .i64 u.f1, .slice Au u.f2.length cu, .string u.f3]] (by rfl) rfl (by first | (go_simp; done) | (go_simp; rfl)) ?_
       refine (ref_calls u.f0 u.f1 Au u.f2.length cu u.f3 wh2).mono ?_
       rintro e wh3 ⟨rfl, hbh2⟩
       have UH_3 := Aside0.mk (blk_below UH_2.out hbh2)
       have SH_3 := Aside0.mk (blk_below SH_2.out hbh2)
       have TH_3 := Aside0.mk (blk_below TH_2.out hbh2)
       have BH_3 := Aside0.mk (below_step BH_2.out hbh2)
       have EH_3 := Aside0.mk (EH_2.out.trans (hbh2.mono EH_2.out.size))
       have DH_3 := Aside0.mk (DH_2.out.trans (hbh2.mono DH_2.out.size))
       clear hbh2
       refine ⟨_, rfl, hK.out _ _ ⟨(blk_cell UH_3.out 0).trans rfl, (blk_cell UH_3.out 1).trans rfl, (blk_cell UH_3.out 2).trans rfl, (blk_cell UH_3.out 3).trans rfl, (blk_cell SH_3.out 0).trans rfl, (blk_cell SH_3.out 1).trans rfl, (blk_cell SH_3.out 2).trans rfl, (blk_cell SH_3.out 3).trans rfl, (blk_cell TH_3.out 0).trans rfl, (blk_cell TH_3.out 1).trans rfl, (blk_cell TH_3.out 2).trans rfl, (blk_cell TH_3.out 3).trans rfl⟩ (fun hHeld => ?_)⟩
       clear hK K
       refine norm_ (a' := ?_) ?_ ?_
       rotate_left
       ·show Act.put _ (some 136) _ = _
        simp only [Act.put, List.setIfInBounds_toArray, List.set_cons_zero, List.set_cons_succ]
        rfl
       refine one_ (i := 8) (N := some 138) #[true, true, true, true, true, true, true, true, true, false, false] rfl rfl (by kernel_rfl) (by decide) (fun K hK => ?_)
       refine call_ 19 #[.agg #[.int .i64 u.f0, .int .i64 u.f1, .slice Au u.f2.length cu, .string u.f3], .agg #[.int .i64 t.f0, .int .i64 t.f1, .slice At t.f2.length ct, .string t.f3]] (by rfl) rfl (by first | (go_simp; done) | (go_simp; rfl)) ?_
       refine (stowageref07_Same.calls k5 u.f0 u.f1 Au cu u.f2 u.f3 t.f0 t.f1 At ct t.f2 t.f3 true wh3 (Kd.C_below CU.out DH_3.out) LCU.out (Kd.C_below CT.out EH_3.out) LCT.out HTM.out).mono ?_
       rintro e wh4 ⟨rfl, hbh3⟩
       have UH_4 := Aside0.mk (blk_below UH_3.out hbh3)
       have SH_4 := Aside0.mk (blk_below SH_3.out hbh3)
       have TH_4 := Aside0.mk (blk_below TH_3.out hbh3)
       have BH_4 := Aside0.mk (below_step BH_3.out hbh3)
       have EH_4 := Aside0.mk (EH_3.out.trans (hbh3.mono EH_3.out.size))
       have DH_4 := Aside0.mk (DH_3.out.trans (hbh3.mono DH_3.out.size))
       clear hbh3
       refine ⟨_, rfl, hK.out _ _ ⟨(blk_cell UH_4.out 0).trans rfl, (blk_cell UH_4.out 1).trans rfl, (blk_cell UH_4.out 2).trans rfl, (blk_cell UH_4.out 3).trans rfl, (blk_cell SH_4.out 0).trans rfl, (blk_cell SH_4.out 1).trans rfl, (blk_cell SH_4.out 2).trans rfl, (blk_cell SH_4.out 3).trans rfl, (blk_cell TH_4.out 0).trans rfl, (blk_cell TH_4.out 1).trans rfl, (blk_cell TH_4.out 2).trans rfl, (blk_cell TH_4.out 3).trans rfl⟩ (fun hHeld => ?_)⟩
       clear hK K
       refine norm_ (a' := ?_) ?_ ?_
       rotate_left
       ·show Act.put _ (some 138) _ = _
        simp only [Act.put, List.setIfInBounds_toArray, List.set_cons_zero, List.set_cons_succ]
        rfl
       refine pure_ (i := 9) (N := some 139) (v := ?_) (a' := ?_) #[true, true, true, true, true, true, true, true, true, true, false] rfl rfl (by kernel_rfl) (fun _ _ _ h => h) (Or.inl ⟨by rfl, ?_⟩) ?_ ?_
       rotate_left
       ·intro w'
        go_simp
        with_reducible rfl
       rotate_left
       ·simp only [Act.put, List.setIfInBounds_toArray, List.set_cons_zero, List.set_cons_succ]
        rfl
       refine pure_ (i := 10) (N := some 4) (v := ?_) (a' := ?_) #[true, true, true, true, true, true, true, true, true, true, true] rfl rfl (by kernel_rfl) (fun _ _ _ h => h) (Or.inl ⟨by rfl, ?_⟩) ?_ ?_
       rotate_left
       ·intro w'
        go_simp
        with_reducible rfl
       rotate_left
       ·simp only [Act.put, List.setIfInBounds_toArray, List.set_cons_zero, List.set_cons_succ]
        rfl
       refine done_ (by kernel_rfl) ?_
       clear hHeld
       go_wp2
       go_ret
       exact ⟨rfl, BH_4.out⟩
     ·have g0 : ((u.f2.length : Int) > 0) = True := eq_true (by omega)
      have g1 : (0 < (u.f2.length : Int)) = True := eq_true (by omega)
      have g2 : (0 < u.f2.length) = True := eq_true hl0
      rw [hl1]
      clear hl0 hl1
      go_upto_region 27 with (fail)
      generalize wa.alloc (.cells #[.int .i64 u.f0, .int .i64 u.f1, .slice Au u.f2.length cu, .string u.f3] 24 (0, 0)) = wE at ZB SB TB BB DB ⊢
      obtain ⟨As, cs, s6, hcs, hCs, hls⟩ := SB.out
      obtain ⟨At, ct, t7, hct, hCt, hlt7⟩ := TB.out
      have BE := Aside0.mk (BA.out.trans (BB.out.mono BA.out.size))
      have CS := Aside0.mk hCs
      have CT := Aside0.mk hCt
      have LCS := Aside0.mk hcs
      have LCT := Aside0.mk hct
      have UH_0 := Aside0.mk (blk_drew ZB.out)
      have SH_0 := Aside0.mk (blk_drew s6)
      have TH_0 := Aside0.mk (blk_drew t7)
      have BH_0 := Aside0.mk (below_drew1 BE.out)
      have EH_0 : Aside0 (Below w.heap.size w wE.drew) := ⟨below_drew1 BE.out⟩
      have DH_0 := Aside0.mk DB.out.drew
      have hul : u.f2.length ≤ 1000000000000000000 := hst.elim (fun h => h ▸ hls) (fun h => h ▸ hlt7)
      have hsm := same_ev u.f0 u.f1 u.f2 u.f3 s.f0 s.f1 s.f2 s.f3 hul
      have htm : u = t → Ev (fun k => stowageref07_Same.f k u.f0 u.f1 u.f2 u.f3 t.f0 t.f1 t.f2 t.f3) true := fun h => by
       have := same_ev u.f0 u.f1 u.f2 u.f3 t.f0 t.f1 t.f2 t.f3 hul
       rw [h, sameS_refl] at this
       rw [h]; exact this
      have hv : sameS u.f0 u.f1 u.f2 u.f3 s.f0 s.f1 s.f2 s.f3 = true ∨ (sameS u.f0 u.f1 u.f2 u.f3 s.f0 s.f1 s.f2 s.f3 = false ∧ u = t) := by
       rcases hst with h | h
       ·left; rw [h]; exact sameS_refl _ _ _ _
       ·cases hx : sameS u.f0 u.f1 u.f2 u.f3 s.f0 s.f1 s.f2 s.f3 with
        | true => exact Or.inl rfl
        | false => exact Or.inr ⟨rfl, h⟩
      clear hst hls hlt7 hul SB TB ZB DB BB s6 t7 hcs hct hCs hCt
      rcases hv with hv | ⟨hv, hut⟩
      ·rw [hv] at hsm
       obtain ⟨k4, hk4⟩ := hsm.rounds
       have HSM := Aside0.mk hk4
       clear hsm htm hv hk4
       refine start_ (n := 11) (S := (fun w' => w'.cell? ⟨wa.heap.size, 0, none⟩ = some (.int .i64 u.f0) ∧ w'.cell? ⟨wa.heap.size, 1, none⟩ = some (.int .i64 u.f1) ∧ w'.cell? ⟨wa.heap.size, 2, none⟩ = some (.slice Au u.f2.length cu) ∧ w'.cell? ⟨wa.heap.size, 3, none⟩ = some (.string u.f3) ∧ w'.cell? ⟨w4.heap.size, 0, none⟩ = some (.int .i64 s.f0) ∧ w'.cell? ⟨w4.heap.size, 1, none⟩ = some (.int .i64 s.f1) ∧ w'.cell? ⟨w4.heap.size, 2, none⟩ = some (.slice As s.f2.length cs) ∧ w'.cell? ⟨w4.heap.size, 3, none⟩ = some (.string s.f3) ∧ w'.cell? ⟨w4.heap.size + 1, 0, none⟩ = some (.int .i64 t.f0) ∧ w'.cell? ⟨w4.heap.size + 1, 1, none⟩ = some (.int .i64 t.f1) ∧ w'.cell? ⟨w4.heap.size + 1, 2, none⟩ = some (.slice At t.f2.length ct) ∧ w'.cell? ⟨w4.heap.size + 1, 3, none⟩ = some (.string t.f3))) (ds := []) #[false, false, false, false, false, false, false, false, false, false, false] (by kernel_rfl) rfl rfl ⟨(blk_cell UH_0.out 0).trans rfl, (blk_cell UH_0.out 1).trans rfl, (blk_cell UH_0.out 2).trans rfl, (blk_cell UH_0.out 3).trans rfl, (blk_cell SH_0.out 0).trans rfl, (blk_cell SH_0.out 1).trans rfl, (blk_cell SH_0.out 2).trans rfl, (blk_cell SH_0.out 3).trans rfl, (blk_cell TH_0.out 0).trans rfl, (blk_cell TH_0.out 1).trans rfl, (blk_cell TH_0.out 2).trans rfl, (blk_cell TH_0.out 3).trans rfl⟩ (fun hHeld => ?_)
       refine take_ (i := 0) (N := some 130) (v := ?_) (a' := ?_) #[true, false, false, false, false, false, false, false, false, false, false] rfl rfl (by kernel_rfl) (fun _ _ _ h => h) (Or.inl ⟨by rfl, ?_⟩) (by first | exact hHeld | assumption) ?_ ?_
       rotate_left
       ·rintro w' ⟨s0, s1, s2, s3, s4, s5, s6, s7, s8, s9, s10, s11⟩
        go_simp
        with_reducible rfl
       rotate_left
       ·simp only [Act.put, List.setIfInBounds_toArray, List.set_cons_zero, List.set_cons_succ]
        rfl
       refine take_ (i := 2) (N := some 132) (v := ?_) (a' := ?_) #[true, false, true, false, false, false, false, false, false, false, false] rfl rfl (by kernel_rfl) (fun _ _ _ h => h) (Or.inl ⟨by rfl, ?_⟩) (by first | exact hHeld | assumption) ?_ ?_
       rotate_left
       ·rintro w' ⟨s0, s1, s2, s3, s4, s5, s6, s7, s8, s9, s10, s11⟩
        go_simp
        with_reducible rfl
       rotate_left
       ·simp only [Act.put, List.setIfInBounds_toArray, List.set_cons_zero, List.set_cons_succ]
        rfl
       refine one_ (i := 1) (N := some 131) #[true, true, true, false, false, false, false, false, false, false, false] rfl rfl (by kernel_rfl) (by decide) (fun K hK => ?_)
       refine call_ 13 #[.agg #[.int .i64 u.f0, .int .i64 u.f1, .slice Au u.f2.length cu, .string u.f3]] (by rfl) rfl (by first | (go_simp; done) | (go_simp; rfl)) ?_
       refine (ref_calls u.f0 u.f1 Au u.f2.length cu u.f3 wE.drew).mono ?_
       rintro e wh1 ⟨rfl, hbh0⟩
       have UH_1 := Aside0.mk (blk_below UH_0.out hbh0)
       have SH_1 := Aside0.mk (blk_below SH_0.out hbh0)
       have TH_1 := Aside0.mk (blk_below TH_0.out hbh0)
       have BH_1 := Aside0.mk (below_step BH_0.out hbh0)
       have EH_1 := Aside0.mk (EH_0.out.trans (hbh0.mono EH_0.out.size))
       have DH_1 := Aside0.mk (DH_0.out.trans (hbh0.mono DH_0.out.size))
       clear hbh0
       refine ⟨_, rfl, hK.out _ _ ⟨(blk_cell UH_1.out 0).trans rfl, (blk_cell UH_1.out 1).trans rfl, (blk_cell UH_1.out 2).trans rfl, (blk_cell UH_1.out 3).trans rfl, (blk_cell SH_1.out 0).trans rfl, (blk_cell SH_1.out 1).trans rfl, (blk_cell SH_1.out 2).trans rfl, (blk_cell SH_1.out 3).trans rfl, (blk_cell TH_1.out 0).trans rfl, (blk_cell TH_1.out 1).trans rfl, (blk_cell TH_1.out 2).trans rfl, (blk_cell TH_1.out 3).trans rfl⟩ (fun hHeld => ?_)⟩
       clear hK K
       refine norm_ (a' := ?_) ?_ ?_
       rotate_left
       ·show Act.put _ (some 131) _ = _
        simp only [Act.put, List.setIfInBounds_toArray, List.set_cons_zero, List.set_cons_succ]
        rfl
       refine one_ (i := 3) (N := some 133) #[true, true, true, true, false, false, false, false, false, false, false] rfl rfl (by kernel_rfl) (by decide) (fun K hK => ?_)
       refine call_ 19 #[.agg #[.int .i64 u.f0, .int .i64 u.f1, .slice Au u.f2.length cu, .string u.f3], .agg #[.int .i64 s.f0, .int .i64 s.f1, .slice As s.f2.length cs, .string s.f3]] (by rfl) rfl (by first | (go_simp; done) | (go_simp; rfl)) ?_
       refine (stowageref07_Same.calls k4 u.f0 u.f1 Au cu u.f2 u.f3 s.f0 s.f1 As cs s.f2 s.f3 true wh1 (Kd.C_below CU.out DH_1.out) LCU.out (Kd.C_below CS.out EH_1.out) LCS.out HSM.out).mono ?_
       rintro e wh2 ⟨rfl, hbh1⟩
       have UH_2 := Aside0.mk (blk_below UH_1.out hbh1)
       have SH_2 := Aside0.mk (blk_below SH_1.out hbh1)
       have TH_2 := Aside0.mk (blk_below TH_1.out hbh1)
       have BH_2 := Aside0.mk (below_step BH_1.out hbh1)
       have EH_2 := Aside0.mk (EH_1.out.trans (hbh1.mono EH_1.out.size))
       have DH_2 := Aside0.mk (DH_1.out.trans (hbh1.mono DH_1.out.size))
       clear hbh1
       refine ⟨_, rfl, hK.out _ _ ⟨(blk_cell UH_2.out 0).trans rfl, (blk_cell UH_2.out 1).trans rfl, (blk_cell UH_2.out 2).trans rfl, (blk_cell UH_2.out 3).trans rfl, (blk_cell SH_2.out 0).trans rfl, (blk_cell SH_2.out 1).trans rfl, (blk_cell SH_2.out 2).trans rfl, (blk_cell SH_2.out 3).trans rfl, (blk_cell TH_2.out 0).trans rfl, (blk_cell TH_2.out 1).trans rfl, (blk_cell TH_2.out 2).trans rfl, (blk_cell TH_2.out 3).trans rfl⟩ (fun hHeld => ?_)⟩
       clear hK K
       refine norm_ (a' := ?_) ?_ ?_
       rotate_left
       ·show Act.put _ (some 133) _ = _
        simp only [Act.put, List.setIfInBounds_toArray, List.set_cons_zero, List.set_cons_succ]
        rfl
       refine pure_ (i := 4) (N := some 134) (v := ?_) (a' := ?_) #[true, true, true, true, true, false, false, false, false, false, false] rfl rfl (by kernel_rfl) (fun _ _ _ h => h) (Or.inl ⟨by rfl, ?_⟩) ?_ ?_
       rotate_left
       ·intro w'
        go_simp
        with_reducible rfl
       rotate_left
       ·simp only [Act.put, List.setIfInBounds_toArray, List.set_cons_zero, List.set_cons_succ]
        rfl
       refine pure_ (i := 5) (N := some 135) (v := undef) (a' := ?_) #[true, true, true, true, true, true, false, false, false, false, false] rfl rfl (by kernel_rfl) (fun _ _ _ h => h) (Or.inr ⟨by rfl, rfl⟩) ?_ ?_
       rotate_left
       ·simp only [Act.put, List.setIfInBounds_toArray, List.set_cons_zero, List.set_cons_succ]
        rfl
       refine pure_ (i := 6) (N := some 136) (v := undef) (a' := ?_) #[true, true, true, true, true, true, true, false, false, false, false] rfl rfl (by kernel_rfl) (fun _ _ _ h => h) (Or.inr ⟨by rfl, rfl⟩) ?_ ?_
       rotate_left
       ·simp only [Act.put, List.setIfInBounds_toArray, List.set_cons_zero, List.set_cons_succ]
        rfl
       refine pure_ (i := 7) (N := some 137) (v := undef) (a' := ?_) #[true, true, true, true, true, true, true, true, false, false, false] rfl rfl (by kernel_rfl) (fun _ _ _ h => h) (Or.inr ⟨by rfl, rfl⟩) ?_ ?_
       rotate_left
       ·simp only [Act.put, List.setIfInBounds_toArray, List.set_cons_zero, List.set_cons_succ]
        rfl
       refine pure_ (i := 8) (N := some 138) (v := undef) (a' := ?_) #[true, true, true, true, true, true, true, true, true, false, false] rfl rfl (by kernel_rfl) (fun _ _ _ h => h) (Or.inr ⟨by rfl, rfl⟩) ?_ ?_
       rotate_left
       ·simp only [Act.put, List.setIfInBounds_toArray, List.set_cons_zero, List.set_cons_succ]
        rfl
       refine pure_ (i := 9) (N := some 139) (v := ?_) (a' := ?_) #[true, true, true, true, true, true, true, true, true, true, false] rfl rfl (by kernel_rfl) (fun _ _ _ h => h) (Or.inl ⟨by rfl, ?_⟩) ?_ ?_
       rotate_left
       ·intro w'
        go_simp
        with_reducible rfl
       rotate_left
       ·simp only [Act.put, List.setIfInBounds_toArray, List.set_cons_zero, List.set_cons_succ]
        rfl
       refine pure_ (i := 10) (N := some 4) (v := ?_) (a' := ?_) #[true, true, true, true, true, true, true, true, true, true, true] rfl rfl (by kernel_rfl) (fun _ _ _ h => h) (Or.inl ⟨by rfl, ?_⟩) ?_ ?_
       rotate_left
       ·intro w'
        go_simp
        with_reducible rfl
       rotate_left
       ·simp only [Act.put, List.setIfInBounds_toArray, List.set_cons_zero, List.set_cons_succ]
        rfl
       refine done_ (by kernel_rfl) ?_
       clear hHeld
       go_wp2
       go_ret
       exact ⟨rfl, BH_2.out⟩
      ·rw [hv] at hsm
       obtain ⟨k4, hk4⟩ := hsm.rounds
       obtain ⟨k5, hk5⟩ := (htm hut).rounds
       have HSM := Aside0.mk hk4
       have HTM := Aside0.mk hk5
       clear hsm htm hv hk4 hk5 hut
       refine start_ (n := 11) (S := (fun w' => w'.cell? ⟨wa.heap.size, 0, none⟩ = some (.int .i64 u.f0) ∧ w'.cell? ⟨wa.heap.size, 1, none⟩ = some (.int .i64 u.f1) ∧ w'.cell? ⟨wa.heap.size, 2, none⟩ = some (.slice Au u.f2.length cu) ∧ w'.cell? ⟨wa.heap.size, 3, none⟩ = some (.string u.f3) ∧ w'.cell? ⟨w4.heap.size, 0, none⟩ = some (.int .i64 s.f0) ∧ w'.cell? ⟨w4.heap.size, 1, none⟩ = some (.int .i64 s.f1) ∧ w'.cell? ⟨w4.heap.size, 2, none⟩ = some (.slice As s.f2.length cs) ∧ w'.cell? ⟨w4.heap.size, 3, none⟩ = some (.string s.f3) ∧ w'.cell? ⟨w4.heap.size + 1, 0, none⟩ = some (.int .i64 t.f0) ∧ w'.cell? ⟨w4.heap.size + 1, 1, none⟩ = some (.int .i64 t.f1) ∧ w'.cell? ⟨w4.heap.size + 1, 2, none⟩ = some (.slice At t.f2.length ct) ∧ w'.cell? ⟨w4.heap.size + 1, 3, none⟩ = some (.string t.f3))) (ds := []) #[false, false, false, false, false, false, false, false, false, false, false] (by kernel_rfl) rfl rfl ⟨(blk_cell UH_0.out 0).trans rfl, (blk_cell UH_0.out 1).trans rfl, (blk_cell UH_0.out 2).trans rfl, (blk_cell UH_0.out 3).trans rfl, (blk_cell SH_0.out 0).trans rfl, (blk_cell SH_0.out 1).trans rfl, (blk_cell SH_0.out 2).trans rfl, (blk_cell SH_0.out 3).trans rfl, (blk_cell TH_0.out 0).trans rfl, (blk_cell TH_0.out 1).trans rfl, (blk_cell TH_0.out 2).trans rfl, (blk_cell TH_0.out 3).trans rfl⟩ (fun hHeld => ?_)
       refine take_ (i := 0) (N := some 130) (v := ?_) (a' := ?_) #[true, false, false, false, false, false, false, false, false, false, false] rfl rfl (by kernel_rfl) (fun _ _ _ h => h) (Or.inl ⟨by rfl, ?_⟩) (by first | exact hHeld | assumption) ?_ ?_
       rotate_left
       ·rintro w' ⟨s0, s1, s2, s3, s4, s5, s6, s7, s8, s9, s10, s11⟩
        go_simp
        with_reducible rfl
       rotate_left
       ·simp only [Act.put, List.setIfInBounds_toArray, List.set_cons_zero, List.set_cons_succ]
        rfl
       refine take_ (i := 2) (N := some 132) (v := ?_) (a' := ?_) #[true, false, true, false, false, false, false, false, false, false, false] rfl rfl (by kernel_rfl) (fun _ _ _ h => h) (Or.inl ⟨by rfl, ?_⟩) (by first | exact hHeld | assumption) ?_ ?_
       rotate_left
       ·rintro w' ⟨s0, s1, s2, s3, s4, s5, s6, s7, s8, s9, s10, s11⟩
        go_simp
        with_reducible rfl
       rotate_left
       ·simp only [Act.put, List.setIfInBounds_toArray, List.set_cons_zero, List.set_cons_succ]
        rfl
       refine one_ (i := 1) (N := some 131) #[true, true, true, false, false, false, false, false, false, false, false] rfl rfl (by kernel_rfl) (by decide) (fun K hK => ?_)
       refine call_ 13 #[.agg #[.int .i64 u.f0, .int .i64 u.f1, .slice Au u.f2.length cu, .string u.f3]] (by rfl) rfl (by first | (go_simp; done) | (go_simp; rfl)) ?_
       refine (ref_calls u.f0 u.f1 Au u.f2.length cu u.f3 wE.drew).mono ?_
       rintro e wh1 ⟨rfl, hbh0⟩
       have UH_1 := Aside0.mk (blk_below UH_0.out hbh0)
       have SH_1 := Aside0.mk (blk_below SH_0.out hbh0)
       have TH_1 := Aside0.mk (blk_below TH_0.out hbh0)
       have BH_1 := Aside0.mk (below_step BH_0.out hbh0)
       have EH_1 := Aside0.mk (EH_0.out.trans (hbh0.mono EH_0.out.size))
       have DH_1 := Aside0.mk (DH_0.out.trans (hbh0.mono DH_0.out.size))
       clear hbh0
       refine ⟨_, rfl, hK.out _ _ ⟨(blk_cell UH_1.out 0).trans rfl, (blk_cell UH_1.out 1).trans rfl, (blk_cell UH_1.out 2).trans rfl, (blk_cell UH_1.out 3).trans rfl, (blk_cell SH_1.out 0).trans rfl, (blk_cell SH_1.out 1).trans rfl, (blk_cell SH_1.out 2).trans rfl, (blk_cell SH_1.out 3).trans rfl, (blk_cell TH_1.out 0).trans rfl, (blk_cell TH_1.out 1).trans rfl, (blk_cell TH_1.out 2).trans rfl, (blk_cell TH_1.out 3).trans rfl⟩ (fun hHeld => ?_)⟩
       clear hK K
       refine norm_ (a' := ?_) ?_ ?_
       rotate_left
       ·show Act.put _ (some 131) _ = _
        simp only [Act.put, List.setIfInBounds_toArray, List.set_cons_zero, List.set_cons_succ]
        rfl
       refine one_ (i := 3) (N := some 133) #[true, true, true, true, false, false, false, false, false, false, false] rfl rfl (by kernel_rfl) (by decide) (fun K hK => ?_)
       refine call_ 19 #[.agg #[.int .i64 u.f0, .int .i64 u.f1, .slice Au u.f2.length cu, .string u.f3], .agg #[.int .i64 s.f0, .int .i64 s.f1, .slice As s.f2.length cs, .string s.f3]] (by rfl) rfl (by first | (go_simp; done) | (go_simp; rfl)) ?_
       refine (stowageref07_Same.calls k4 u.f0 u.f1 Au cu u.f2 u.f3 s.f0 s.f1 As cs s.f2 s.f3 false wh1 (Kd.C_below CU.out DH_1.out) LCU.out (Kd.C_below CS.out EH_1.out) LCS.out HSM.out).mono ?_
       rintro e wh2 ⟨rfl, hbh1⟩
       have UH_2 := Aside0.mk (blk_below UH_1.out hbh1)
       have SH_2 := Aside0.mk (blk_below SH_1.out hbh1)
       have TH_2 := Aside0.mk (blk_below TH_1.out hbh1)
       have BH_2 := Aside0.mk (below_step BH_1.out hbh1)
       have EH_2 := Aside0.mk (EH_1.out.trans (hbh1.mono EH_1.out.size))
       have DH_2 := Aside0.mk (DH_1.out.trans (hbh1.mono DH_1.out.size))
       clear hbh1
       refine ⟨_, rfl, hK.out _ _ ⟨(blk_cell UH_2.out 0).trans rfl, (blk_cell UH_2.out 1).trans rfl, (blk_cell UH_2.out 2).trans rfl, (blk_cell UH_2.out 3).trans rfl, (blk_cell SH_2.out 0).trans rfl, (blk_cell SH_2.out 1).trans rfl, (blk_cell SH_2.out 2).trans rfl, (blk_cell SH_2.out 3).trans rfl, (blk_cell TH_2.out 0).trans rfl, (blk_cell TH_2.out 1).trans rfl, (blk_cell TH_2.out 2).trans rfl, (blk_cell TH_2.out 3).trans rfl⟩ (fun hHeld => ?_)⟩
       clear hK K
       refine norm_ (a' := ?_) ?_ ?_
       rotate_left
       ·show Act.put _ (some 133) _ = _
        simp only [Act.put, List.setIfInBounds_toArray, List.set_cons_zero, List.set_cons_succ]
        rfl
       refine pure_ (i := 4) (N := some 134) (v := ?_) (a' := ?_) #[true, true, true, true, true, false, false, false, false, false, false] rfl rfl (by kernel_rfl) (fun _ _ _ h => h) (Or.inl ⟨by rfl, ?_⟩) ?_ ?_
       rotate_left
       ·intro w'
        go_simp
        with_reducible rfl
       rotate_left
       ·simp only [Act.put, List.setIfInBounds_toArray, List.set_cons_zero, List.set_cons_succ]
        rfl
       refine take_ (i := 5) (N := some 135) (v := ?_) (a' := ?_) #[true, true, true, true, true, true, false, false, false, false, false] rfl rfl (by kernel_rfl) (fun _ _ _ h => h) (Or.inl ⟨by rfl, ?_⟩) (by first | exact hHeld | assumption) ?_ ?_
       rotate_left
       ·rintro w' ⟨s0, s1, s2, s3, s4, s5, s6, s7, s8, s9, s10, s11⟩
        go_simp
        with_reducible rfl
       rotate_left
       ·simp only [Act.put, List.setIfInBounds_toArray, List.set_cons_zero, List.set_cons_succ]
        rfl
       refine take_ (i := 7) (N := some 137) (v := ?_) (a' := ?_) #[true, true, true, true, true, true, false, true, false, false, false] rfl rfl (by kernel_rfl) (fun _ _ _ h => h) (Or.inl ⟨by rfl, ?_⟩) (by first | exact hHeld | assumption) ?_ ?_
       rotate_left
       ·rintro w' ⟨s0, s1, s2, s3, s4, s5, s6, s7, s8, s9, s10, s11⟩
        go_simp
        with_reducible rfl
       rotate_left
       ·simp only [Act.put, List.setIfInBounds_toArray, List.set_cons_zero, List.set_cons_succ]
        rfl
       refine one_ (i := 6) (N := some 136) #[true, true, true, true, true, true, true, true, false, false, false] rfl rfl (by kernel_rfl) (by decide) (fun K hK => ?_)
       refine call_ 13 #[.agg #[.int .i64 u.f0, .int .i64 u.f1, .slice Au u.f2.length cu, .string u.f3]] (by rfl) rfl (by first | (go_simp; done) | (go_simp; rfl)) ?_
       refine (ref_calls u.f0 u.f1 Au u.f2.length cu u.f3 wh2).mono ?_
       rintro e wh3 ⟨rfl, hbh2⟩
       have UH_3 := Aside0.mk (blk_below UH_2.out hbh2)
       have SH_3 := Aside0.mk (blk_below SH_2.out hbh2)
       have TH_3 := Aside0.mk (blk_below TH_2.out hbh2)
       have BH_3 := Aside0.mk (below_step BH_2.out hbh2)
       have EH_3 := Aside0.mk (EH_2.out.trans (hbh2.mono EH_2.out.size))
       have DH_3 := Aside0.mk (DH_2.out.trans (hbh2.mono DH_2.out.size))
       clear hbh2
       refine ⟨_, rfl, hK.out _ _ ⟨(blk_cell UH_3.out 0).trans rfl, (blk_cell UH_3.out 1).trans rfl, (blk_cell UH_3.out 2).trans rfl, (blk_cell UH_3.out 3).trans rfl, (blk_cell SH_3.out 0).trans rfl, (blk_cell SH_3.out 1).trans rfl, (blk_cell SH_3.out 2).trans rfl, (blk_cell SH_3.out 3).trans rfl, (blk_cell TH_3.out 0).trans rfl, (blk_cell TH_3.out 1).trans rfl, (blk_cell TH_3.out 2).trans rfl, (blk_cell TH_3.out 3).trans rfl⟩ (fun hHeld => ?_)⟩
       clear hK K
       refine norm_ (a' := ?_) ?_ ?_
       rotate_left
       ·show Act.put _ (some 136) _ = _
        simp only [Act.put, List.setIfInBounds_toArray, List.set_cons_zero, List.set_cons_succ]
        rfl
       refine one_ (i := 8) (N := some 138) #[true, true, true, true, true, true, true, true, true, false, false] rfl rfl (by kernel_rfl) (by decide) (fun K hK => ?_)
       refine call_ 19 #[.agg #[.int .i64 u.f0, .int .i64 u.f1, .slice Au u.f2.length cu, .string u.f3], .agg #[.int .i64 t.f0, .int .i64 t.f1, .slice At t.f2.length ct, .string t.f3]] (by rfl) rfl (by first | (go_simp; done) | (go_simp; rfl)) ?_
       refine (stowageref07_Same.calls k5 u.f0 u.f1 Au cu u.f2 u.f3 t.f0 t.f1 At ct t.f2 t.f3 true wh3 (Kd.C_below CU.out DH_3.out) LCU.out (Kd.C_below CT.out EH_3.out) LCT.out HTM.out).mono ?_
       rintro e wh4 ⟨rfl, hbh3⟩
       have UH_4 := Aside0.mk (blk_below UH_3.out hbh3)
       have SH_4 := Aside0.mk (blk_below SH_3.out hbh3)
       have TH_4 := Aside0.mk (blk_below TH_3.out hbh3)
       have BH_4 := Aside0.mk (below_step BH_3.out hbh3)
       have EH_4 := Aside0.mk (EH_3.out.trans (hbh3.mono EH_3.out.size))
       have DH_4 := Aside0.mk (DH_3.out.trans (hbh3.mono DH_3.out.size))
       clear hbh3
       refine ⟨_, rfl, hK.out _ _ ⟨(blk_cell UH_4.out 0).trans rfl, (blk_cell UH_4.out 1).trans rfl, (blk_cell UH_4.out 2).trans rfl, (blk_cell UH_4.out 3).trans rfl, (blk_cell SH_4.out 0).trans rfl, (blk_cell SH_4.out 1).trans rfl, (blk_cell SH_4.out 2).trans rfl, (blk_cell SH_4.out 3).trans rfl, (blk_cell TH_4.out 0).trans rfl, (blk_cell TH_4.out 1).trans rfl, (blk_cell TH_4.out 2).trans rfl, (blk_cell TH_4.out 3).trans rfl⟩ (fun hHeld => ?_)⟩
       clear hK K
       refine norm_ (a' := ?_) ?_ ?_
       rotate_left
       ·show Act.put _ (some 138) _ = _
        simp only [Act.put, List.setIfInBounds_toArray, List.set_cons_zero, List.set_cons_succ]
        rfl
       refine pure_ (i := 9) (N := some 139) (v := ?_) (a' := ?_) #[true, true, true, true, true, true, true, true, true, true, false] rfl rfl (by kernel_rfl) (fun _ _ _ h => h) (Or.inl ⟨by rfl, ?_⟩) ?_ ?_
       rotate_left
       ·intro w'
        go_simp
        with_reducible rfl
       rotate_left
       ·simp only [Act.put, List.setIfInBounds_toArray, List.set_cons_zero, List.set_cons_succ]
        rfl
       refine pure_ (i := 10) (N := some 4) (v := ?_) (a' := ?_) #[true, true, true, true, true, true, true, true, true, true, true] rfl rfl (by kernel_rfl) (fun _ _ _ h => h) (Or.inl ⟨by rfl, ?_⟩) ?_ ?_
       rotate_left
       ·intro w'
        go_simp
        with_reducible rfl
       rotate_left
       ·simp only [Act.put, List.setIfInBounds_toArray, List.set_cons_zero, List.set_cons_succ]
        rfl
       refine done_ (by kernel_rfl) ?_
       clear hHeld
       go_wp2
       go_ret
       exact ⟨rfl, BH_4.out⟩
   ·have hlt : ((j : Int) < (l.length : Int)) = False := eq_false (by omega)
    have HVV : Aside0 ((IV x s ∨ IV x t) ∧ f.length ≤ 1 ∧ 0 ≤ n ∧ n ≤ 16 ∧ osz y ≤ 131190) := ⟨HV.out.1.elim Or.inl (fun h => Or.inr h.2), HV.out.2.1, HV.out.2.2.1, by have := HV.out.2.2.2.1; have := HJ.out; omega, HV.out.2.2.2.2⟩
    have HXS : Aside0 (osz x ≤ 131190) := ⟨HVV.out.1.elim IV.sz IV.sz⟩
    have P0 := Aside0.mk ((HB.out.block _ LP.out).trans PA.out)
    have I0 := HI
    have S0 := HS
    have T0 := HT
    have B0 := HB
    clear HV HI HS HT HB HJ
    have q1 := (blk_cell P0.out 1).trans rfl
    have q2 := (blk_cell P0.out 2).trans rfl
    go_wp2_with (fail)
    refine (fail_calls I0.out (fun k hk => ⟨Nat.le_trans B0.out.size hk, by have := S0.out.lt; omega, by have := T0.out.lt; omega⟩) trivial p1 p2).mono ?_
    rintro e w1 ⟨rfl, hI, hK⟩
    rw [fail_any] at hI
    have I1 : Aside0 (IsD w1 dd (fun k => wA.heap.size ≤ k ∧ k ≠ w4.heap.size ∧ k ≠ w4.heap.size + 1) (idle x y n f (-1) true)) := ⟨hI⟩
    have S1 := Aside0.mk (S0.out.step (hK.block _ S0.out.lt (fun h => h.2.1 rfl)))
    have T1 := Aside0.mk (T0.out.step (hK.block _ T0.out.lt (fun h => h.2.2 rfl)))
    have B1 := Aside0.mk (B0.out.trans ((hK.mono (ok' := fun k => wA.heap.size ≤ k) (fun k _ hk => hk.1)).below B0.out.size))
    clear hI hK I0 S0 T0 B0
    clear q1 q2 P0
    go_wp2_with (fail)
    refine (up_calls I1.out).mono ?_
    rintro e wU2 ⟨rfl, hI, hK⟩
    have I2 : Aside0 (IsD wU2 dd (fun k => wA.heap.size ≤ k ∧ k ≠ w4.heap.size ∧ k ≠ w4.heap.size + 1) (idle x y n f (-1) false)) := ⟨hI⟩
    have S2 := Aside0.mk (S1.out.step (hK.block _ S1.out.lt (fun h => h.2.1 rfl)))
    have T2 := Aside0.mk (T1.out.step (hK.block _ T1.out.lt (fun h => h.2.2 rfl)))
    have B2 := Aside0.mk (B1.out.trans ((hK.mono (ok' := fun k => wA.heap.size ≤ k) (fun k _ hk => hk.1)).below B1.out.size))
    clear hI hK I1 S1 T1 B1
    go_upto_region 19 with (fail)
    generalize hz : wU2 = wz at I2 S2 T2 B2 ⊢
    clear hz
    have PZ := Aside0.mk (blk_drew ((B2.out.block _ LP.out).trans PA.out))
    have IZ := Aside0.mk (I2.out.step (W' := wz.drew) (fun _ _ _ => rfl))
    have BZ := Aside0.mk B2.out.drew
    have SZ := Aside0.mk (S2.out.step (w' := wz.drew) rfl)
    have TZ := Aside0.mk (T2.out.step (w' := wz.drew) rfl)
    clear I2 S2 T2 B2
    obtain ⟨hq4, hq5⟩ : wz.drew.cell? ⟨w.heap.size, 4, none⟩ = some (.int .i64 p4) ∧ wz.drew.cell? ⟨w.heap.size, 5, none⟩ = some (.int .i64 p5) := ⟨(blk_cell PZ.out 4).trans rfl, (blk_cell PZ.out 5).trans rfl⟩
    refine start_ (n := 12) (S := (fun w' => w'.cell? ⟨w.heap.size, 4, none⟩ = some (.int .i64 p4) ∧ w'.cell? ⟨w.heap.size, 5, none⟩ = some (.int .i64 p5))) (ds := []) #[false, false, false, false, false, false, false, false, false, false, false, false] (by kernel_rfl) rfl rfl ⟨hq4, hq5⟩ (fun hHeld => ?_)
    generalize wz.drew = wy at PZ IZ BZ SZ TZ hHeld ⊢
    have PY := PZ
    have IY := IZ
    have BY := BZ
    have SY := SZ
    have TY := TZ
    clear PZ IZ BZ SZ TZ
    refine pure_ (i := 0) (N := some 88) (v := ?_) (a' := ?_) #[true, false, false, false, false, false, false, false, false, false, false, false] rfl rfl (by kernel_rfl) (fun _ _ _ h => h) (Or.inl ⟨by rfl, ?_⟩) ?_ ?_
    rotate_left
    ·intro w'
     go_simp
     with_reducible rfl
    rotate_left
    ·simp only [Act.put, List.setIfInBounds_toArray, List.set_cons_zero, List.set_cons_succ]
     rfl
    refine pure_ (i := 1) (N := some 89) (v := ?_) (a' := ?_) #[true, true, false, false, false, false, false, false, false, false, false, false] rfl rfl (by kernel_rfl) (fun _ _ _ h => h) (Or.inl ⟨by rfl, ?_⟩) ?_ ?_
    rotate_left
    ·intro w'
     go_simp
     with_reducible rfl
    rotate_left
    ·simp only [Act.put, List.setIfInBounds_toArray, List.set_cons_zero, List.set_cons_succ]
     rfl
    refine pure_ (i := 3) (N := some 91) (v := ?_) (a' := ?_) #[true, true, false, true, false, false, false, false, false, false, false, false] rfl rfl (by kernel_rfl) (fun _ _ _ h => h) (Or.inl ⟨by rfl, ?_⟩) ?_ ?_
    rotate_left
    ·intro w'
     go_simp
     with_reducible rfl
    rotate_left
    ·simp only [Act.put, List.setIfInBounds_toArray, List.set_cons_zero, List.set_cons_succ]
     rfl
    refine pure_ (i := 4) (N := some 92) (v := ?_) (a' := ?_) #[true, true, false, true, true, false, false, false, false, false, false, false] rfl rfl (by kernel_rfl) (fun _ _ _ h => h) (Or.inl ⟨by rfl, ?_⟩) ?_ ?_
    rotate_left
    ·intro w'
     go_simp
     with_reducible rfl
    rotate_left
    ·simp only [Act.put, List.setIfInBounds_toArray, List.set_cons_zero, List.set_cons_succ]
     rfl
    refine take_ (i := 5) (N := some 93) (v := ?_) (a' := ?_) #[true, true, false, true, true, true, false, false, false, false, false, false] rfl rfl (by kernel_rfl) (fun _ _ _ h => h) (Or.inl ⟨by rfl, ?_⟩) (by first | exact hHeld | assumption) ?_ ?_
    rotate_left
    ·rintro w' ⟨s0, s1⟩
     go_simp
     with_reducible rfl
    rotate_left
    ·simp only [Act.put, List.setIfInBounds_toArray, List.set_cons_zero, List.set_cons_succ]
     rfl
    refine pure_ (i := 6) (N := some 94) (v := ?_) (a' := ?_) #[true, true, false, true, true, true, true, false, false, false, false, false] rfl rfl (by kernel_rfl) (fun _ _ _ h => h) (Or.inl ⟨by rfl, ?_⟩) ?_ ?_
    rotate_left
    ·intro w'
     go_simp
     with_reducible rfl
    rotate_left
    ·simp only [Act.put, List.setIfInBounds_toArray, List.set_cons_zero, List.set_cons_succ]
     rfl
    refine pure_ (i := 7) (N := some 95) (v := ?_) (a' := ?_) #[true, true, false, true, true, true, true, true, false, false, false, false] rfl rfl (by kernel_rfl) (fun _ _ _ h => h) (Or.inl ⟨by rfl, ?_⟩) ?_ ?_
    rotate_left
    ·intro w'
     go_simp
     with_reducible rfl
    rotate_left
    ·simp only [Act.put, List.setIfInBounds_toArray, List.set_cons_zero, List.set_cons_succ]
     rfl
    refine take_ (i := 8) (N := some 96) (v := ?_) (a' := ?_) #[true, true, false, true, true, true, true, true, true, false, false, false] rfl rfl (by kernel_rfl) (fun _ _ _ h => h) (Or.inl ⟨by rfl, ?_⟩) (by first | exact hHeld | assumption) ?_ ?_
    rotate_left
    ·rintro w' ⟨s0, s1⟩
     go_simp
     with_reducible rfl
    rotate_left
    ·simp only [Act.put, List.setIfInBounds_toArray, List.set_cons_zero, List.set_cons_succ]
     rfl
    refine one_ (i := 2) (N := some 90) #[true, true, true, true, true, true, true, true, true, false, false, false] rfl rfl (by kernel_rfl) (by decide) (fun K hK => ?_)
    refine call_ 29 #[.pointer (some ⟨dd, 0, none⟩)] (by rfl) rfl (by first | (go_simp; done) | (go_simp; rfl)) ?_
    refine (changes_calls2 (w := wy) IY.out).mono ?_
    rintro e wc ⟨rfl, rfl⟩
    refine ⟨_, rfl, hK.out _ _ ⟨(blk_cell PY.out 4).trans rfl, (blk_cell PY.out 5).trans rfl⟩ (fun hHeld => ?_)⟩
    clear hK K
    refine norm_ (a' := ?_) ?_ ?_
    rotate_left
    ·show Act.put _ (some 90) _ = _
     simp only [Act.put, List.setIfInBounds_toArray, List.set_cons_zero, List.set_cons_succ]
     rfl
    refine pure_ (i := 9) (N := some 97) (v := ?_) (a' := ?_) #[true, true, true, true, true, true, true, true, true, true, false, false] rfl rfl (by kernel_rfl) (fun _ _ _ h => h) (Or.inl ⟨by rfl, ?_⟩) ?_ ?_
    rotate_left
    ·intro w'
     go_simp
     with_reducible rfl
    rotate_left
    ·simp only [Act.put, List.setIfInBounds_toArray, List.set_cons_zero, List.set_cons_succ]
     rfl
    refine one_ (i := 10) (N := some 98) #[true, true, true, true, true, true, true, true, true, true, true, false] rfl rfl (by kernel_rfl) (by decide) (fun K hK => ?_)
    refine value_ (v := .slice (some ⟨wy.heap.size, 0, none⟩) 1 1) (w1 := wy.alloc (.cells #[.int .i64 n, .int .i64 p4, .int .i64 p5] 51 (0, 0))) (by rfl) rfl (by first | (go_simp; done) | (go_simp; rfl)) ?_
    have hfC := Aside0.mk (fall_one wy ⟨n, p4, p5⟩)
    have bX : Below wy.heap.size wy (wy.alloc (.cells #[.int .i64 n, .int .i64 p4, .int .i64 p5] 51 (0, 0))) := below_alloc (Below.refl _ _) _
    have IX := Aside0.mk (IY.out.below bX)
    have BX := Aside0.mk (BY.out.trans (bX.mono BY.out.size))
    have PX := Aside0.mk ((bX.block _ (blk_lt PY.out)).trans PY.out)
    have SX := Aside0.mk (SY.out.step (bX.block _ SY.out.lt))
    have TX := Aside0.mk (TY.out.step (bX.block _ TY.out.lt))
    clear bX IY BY PY SY TY
    generalize hgx : wy.heap.size = gx at hfC ⊢
    generalize wy.alloc (.cells #[.int .i64 n, .int .i64 p4, .int .i64 p5] 51 (0, 0)) = wx at hfC IX BX PX SX TX ⊢
    refine hK.out _ _ ⟨(blk_cell PX.out 4).trans rfl, (blk_cell PX.out 5).trans rfl⟩ (fun hHeld => ?_)
    clear hK K hgx
    refine norm_ (a' := ?_) ?_ ?_
    rotate_left
    ·show Act.put _ (some 98) _ = _
     simp only [Act.put, List.setIfInBounds_toArray, List.set_cons_zero, List.set_cons_succ]
     rfl
    refine one_ (i := 11) (N := some 99) #[true, true, true, true, true, true, true, true, true, true, true, true] rfl rfl (by kernel_rfl) (by decide) (fun K hK => ?_)
    refine call_ 25 #[.pointer (some ⟨dd, 0, none⟩), .slice (some ⟨gx, 0, none⟩) 1 1] (by rfl) rfl (by first | (go_simp; done) | (go_simp; rfl)) ?_
    refine (plan_calls IX.out (fun k hk => ⟨Nat.le_trans BX.out.size hk, by have := SX.out.lt; omega, by have := TX.out.lt; omega⟩) (some ⟨gx, 0, none⟩) 1 [⟨n, p4, p5⟩] hfC.out (by show 1 * 24 ≤ _; decide)).mono ?_
    rintro e wp ⟨rfl, hI, hKp⟩
    have I3 : Aside0 (IsD wp dd (fun k => wA.heap.size ≤ k ∧ k ≠ w4.heap.size ∧ k ≠ w4.heap.size + 1) (idle x y n [⟨n, p4, p5⟩] (-1) false)) := ⟨hI⟩
    have S3 := Aside0.mk (SX.out.step (hKp.block _ SX.out.lt (fun h => h.2.1 rfl)))
    have T3 := Aside0.mk (TX.out.step (hKp.block _ TX.out.lt (fun h => h.2.2 rfl)))
    have B3 := Aside0.mk (BX.out.trans ((hKp.mono (ok' := fun k => wA.heap.size ≤ k) (fun k _ hk => hk.1)).below BX.out.size))
    have P3 := Aside0.mk ((B3.out.block _ LP.out).trans PA.out)
    clear hI hKp IX BX PX SX TX hfC
    refine ⟨_, rfl, hK.out _ _ ⟨(blk_cell P3.out 4).trans rfl, (blk_cell P3.out 5).trans rfl⟩ (fun hHeld => ?_)⟩
    clear hK K
    refine norm_ (a' := ?_) ?_ ?_
    rotate_left
    ·show Act.put _ (some 99) _ = _
     simp only [Act.put, List.setIfInBounds_toArray, List.set_cons_zero, List.set_cons_succ]
     rfl
    refine done_ (by kernel_rfl) ?_
    clear hHeld
    obtain ⟨y1, n1, f1, dn1, e1, hlk, hy1, hn1⟩ := load_one x y n [⟨n, p4, p5⟩]
    have HLK := Aside0.mk hlk
    have HY1 : Aside0 (osz y1 ≤ 131190 ∧ 0 ≤ n1 ∧ n1 ≤ 17) := ⟨by have := HVV.out; omega, by have := HVV.out; omega, by have := HVV.out; omega⟩
    obtain ⟨R1, hR1⟩ : ∃ R : (Int × Int × List Int × ByteArray) × Bool × Int, R = if (loadK (idle x y n [⟨n, p4, p5⟩] (-1) false)).2 = 0 then loadR x else noL (loadK (idle x y n [⟨n, p4, p5⟩] (-1) false)).2 := ⟨_, rfl⟩
    have HR1 := Aside0.mk hR1
    clear hlk hy1 hn1 P3 hR1
    go_wp2_with (fail)
    refine (load_calls I3.out (fun k hk => ⟨Nat.le_trans B3.out.size hk, by have := S3.out.lt; omega, by have := T3.out.lt; omega⟩) (by have := HXS.out; omega) (by have := HXS.out; have := HVV.out; omega) (by have := HVV.out; omega) (by show 1 ≤ _; decide) R1 HR1.out).mono ?_
    rintro e w6 ⟨v6, rfl, _, hI, hK⟩
    rw [HLK.out] at hI
    have I6 : Aside0 (IsD w6 dd (fun k => wA.heap.size ≤ k ∧ k ≠ w4.heap.size ∧ k ≠ w4.heap.size + 1) (idle x y1 n1 f1 (-1) dn1)) := ⟨hI⟩
    have S6 := Aside0.mk (S3.out.step (hK.block _ S3.out.lt (fun h => h.2.1 rfl)))
    have T6 := Aside0.mk (T3.out.step (hK.block _ T3.out.lt (fun h => h.2.2 rfl)))
    have B6 := Aside0.mk (B3.out.trans ((hK.mono (ok' := fun k => wA.heap.size ≤ k) (fun k _ hk => hk.1)).below B3.out.size))
    clear hI hK I3 S3 T3 B3 HR1
    go_wp2_with (fail)
    refine (plan_calls I6.out (fun k hk => ⟨Nat.le_trans B6.out.size hk, by have := S6.out.lt; omega, by have := T6.out.lt; omega⟩) none 0 [] (Kd.C_nil _ _) (by decide)).mono ?_
    rintro e w7 ⟨rfl, hI, hK⟩
    have I7 : Aside0 (IsD w7 dd (fun k => wA.heap.size ≤ k ∧ k ≠ w4.heap.size ∧ k ≠ w4.heap.size + 1) (idle x y1 n1 [] (-1) dn1)) := ⟨hI⟩
    have S7 := Aside0.mk (S6.out.step (hK.block _ S6.out.lt (fun h => h.2.1 rfl)))
    have T7 := Aside0.mk (T6.out.step (hK.block _ T6.out.lt (fun h => h.2.2 rfl)))
    have B7 := Aside0.mk (B6.out.trans ((hK.mono (ok' := fun k => wA.heap.size ≤ k) (fun k _ hk => hk.1)).below B6.out.size))
    clear hI hK I6 S6 T6 B6
    have P7 := Aside0.mk ((B7.out.block _ LP.out).trans PA.out)
    have q4 := (blk_cell P7.out 4).trans rfl
    have q5 := (blk_cell P7.out 5).trans rfl
    go_wp2_with (fail)
    refine (fail_calls I7.out (fun k hk => ⟨Nat.le_trans B7.out.size hk, by have := S7.out.lt; omega, by have := T7.out.lt; omega⟩) trivial p4 p5).mono ?_
    rintro e w8 ⟨rfl, hI, hK⟩
    rw [fail_any] at hI
    have I8 : Aside0 (IsD w8 dd (fun k => wA.heap.size ≤ k ∧ k ≠ w4.heap.size ∧ k ≠ w4.heap.size + 1) (idle x y1 n1 [] (-1) true)) := ⟨hI⟩
    have S8 := Aside0.mk (S7.out.step (hK.block _ S7.out.lt (fun h => h.2.1 rfl)))
    have T8 := Aside0.mk (T7.out.step (hK.block _ T7.out.lt (fun h => h.2.2 rfl)))
    have B8 := Aside0.mk (B7.out.trans ((hK.mono (ok' := fun k => wA.heap.size ≤ k) (fun k _ hk => hk.1)).below B7.out.size))
    clear hI hK I7 S7 T7 B7
    clear q4 q5 P7
    go_wp2_with (fail)
    refine (up_calls I8.out).mono ?_
    rintro e w9 ⟨rfl, hI, hK⟩
    have I9 : Aside0 (IsD w9 dd (fun k => wA.heap.size ≤ k ∧ k ≠ w4.heap.size ∧ k ≠ w4.heap.size + 1) (idle x y1 n1 [] (-1) false)) := ⟨hI⟩
    have S9 := Aside0.mk (S8.out.step (hK.block _ S8.out.lt (fun h => h.2.1 rfl)))
    have T9 := Aside0.mk (T8.out.step (hK.block _ T8.out.lt (fun h => h.2.2 rfl)))
    have B9 := Aside0.mk (B8.out.trans ((hK.mono (ok' := fun k => wA.heap.size ≤ k) (fun k _ hk => hk.1)).below B8.out.size))
    clear hI hK I8 S8 T8 B8
    obtain ⟨n2, hl2⟩ := load_nofall x y1 n1 (-1)
    obtain ⟨u, hu0, hst⟩ : ∃ u, IV x u ∧ (u = s ∨ u = t) := HVV.out.1.elim (fun h => ⟨s, h, Or.inl rfl⟩) (fun h => ⟨t, h, Or.inr rfl⟩)
    have HR2 : Aside0 (((u.f0, u.f1, u.f2, u.f3), !(u.f2.length == 0), 0) = if (loadK (idle x y1 n1 [] (-1) false)).2 = 0 then loadR x else noL (loadK (idle x y1 n1 [] (-1) false)).2) := ⟨by rw [hl2]; exact hu0.load.symm⟩
    clear hl2 hu0
    go_wp2_with (fail)
    refine (load_calls I9.out (fun k hk => ⟨Nat.le_trans B9.out.size hk, by have := S9.out.lt; omega, by have := T9.out.lt; omega⟩) (by have := HXS.out; omega) (by have := HXS.out; have := HY1.out; omega) (by have := HY1.out; omega) (by decide) _ HR2.out).mono ?_
    rintro e wa ⟨va, rfl, hR, _, hK⟩
    obtain ⟨Au, cu, eu, hlu, hCu⟩ := Kd.R_reads hR
    subst eu
    have Sa := Aside0.mk (S9.out.step (hK.block _ S9.out.lt (fun h => h.2.1 rfl)))
    have Ta := Aside0.mk (T9.out.step (hK.block _ T9.out.lt (fun h => h.2.2 rfl)))
    have Ba := Aside0.mk (B9.out.trans ((hK.mono (ok' := fun k => wA.heap.size ≤ k) (fun k _ hk => hk.1)).below B9.out.size))
    have LCU := Aside0.mk hlu
    have CU := Aside0.mk hCu
    have bb : Below wa.heap.size wa (wa.alloc (.cells #[.int .i64 u.f0, .int .i64 u.f1, .slice Au u.f2.length cu, .string u.f3] 24 (0, 0))) := below_alloc (Below.refl _ _) _
    have ZB := Aside0.mk (heap_alloc_new wa (.cells #[.int .i64 u.f0, .int .i64 u.f1, .slice Au u.f2.length cu, .string u.f3] 24 (0, 0)))
    have SB := Aside0.mk (Sa.out.step (bb.block _ Sa.out.lt))
    have TB := Aside0.mk (Ta.out.step (bb.block _ Ta.out.lt))
    have BB := Aside0.mk (Ba.out.trans (bb.mono Ba.out.size))
    have DB := Aside0.mk bb
    clear hR hK hlu hCu bb I9 S9 T9 B9 Sa Ta Ba HR2
    obtain ⟨Ls, hLs⟩ : ∃ n : Nat, n = u.f2.length := ⟨_, rfl⟩
    have eZB_0 := (blk_cell ZB.out 0).trans rfl
    have eZB_1 := (blk_cell ZB.out 1).trans rfl
    have eZB_2 := (blk_cell ZB.out 2).trans rfl
    have eZB_3 := (blk_cell ZB.out 3).trans rfl
    have hlen : (u.f2.length = 0 ∧ (!(u.f2.length == 0)) = false) ∨ (0 < u.f2.length ∧ (!(u.f2.length == 0)) = true) := by
     rcases Nat.eq_zero_or_pos u.f2.length with h | h
     ·exact Or.inl ⟨h, by rw [h]; rfl⟩
     ·exact Or.inr ⟨h, by rw [show (u.f2.length == 0) = false from beq_eq_false_iff_ne.mpr (by omega)]; rfl⟩
    clear hLs
    rcases hlen with ⟨hl0, hl1⟩ | ⟨hl0, hl1⟩
    ·have g0 : ((u.f2.length : Int) > 0) = False := eq_false (by omega)
     have g1 : (0 < (u.f2.length : Int)) = False := eq_false (by omega)
     have g2 : (0 < u.f2.length) = False := eq_false (by omega)
     rw [hl1]
     clear hl0 hl1
     go_upto_region 27 with (fail)
     generalize wa.alloc (.cells #[.int .i64 u.f0, .int .i64 u.f1, .slice Au u.f2.length cu, .string u.f3] 24 (0, 0)) = wE at ZB SB TB BB DB ⊢
     obtain ⟨As, cs, s6, hcs, hCs, hls⟩ := SB.out
     obtain ⟨At, ct, t7, hct, hCt, hlt7⟩ := TB.out
     have BE := Aside0.mk (BA.out.trans (BB.out.mono BA.out.size))
     have CS := Aside0.mk hCs
     have CT := Aside0.mk hCt
     have LCS := Aside0.mk hcs
     have LCT := Aside0.mk hct
     have UH_0 := Aside0.mk (blk_drew ZB.out)
     have SH_0 := Aside0.mk (blk_drew s6)
     have TH_0 := Aside0.mk (blk_drew t7)
     have BH_0 := Aside0.mk (below_drew1 BE.out)
     have EH_0 : Aside0 (Below w.heap.size w wE.drew) := ⟨below_drew1 BE.out⟩
     have DH_0 := Aside0.mk DB.out.drew
     have hul : u.f2.length ≤ 1000000000000000000 := hst.elim (fun h => h ▸ hls) (fun h => h ▸ hlt7)
     have hsm := same_ev u.f0 u.f1 u.f2 u.f3 s.f0 s.f1 s.f2 s.f3 hul
     have htm : u = t → Ev (fun k => stowageref07_Same.f k u.f0 u.f1 u.f2 u.f3 t.f0 t.f1 t.f2 t.f3) true := fun h => by
      have := same_ev u.f0 u.f1 u.f2 u.f3 t.f0 t.f1 t.f2 t.f3 hul
      rw [h, sameS_refl] at this
      rw [h]; exact this
     have hv : sameS u.f0 u.f1 u.f2 u.f3 s.f0 s.f1 s.f2 s.f3 = true ∨ (sameS u.f0 u.f1 u.f2 u.f3 s.f0 s.f1 s.f2 s.f3 = false ∧ u = t) := by
      rcases hst with h | h
      ·left; rw [h]; exact sameS_refl _ _ _ _
      ·cases hx : sameS u.f0 u.f1 u.f2 u.f3 s.f0 s.f1 s.f2 s.f3 with
       | true => exact Or.inl rfl
       | false => exact Or.inr ⟨rfl, h⟩
     clear hst hls hlt7 hul SB TB ZB DB BB s6 t7 hcs hct hCs hCt
     rcases hv with hv | ⟨hv, hut⟩
     ·rw [hv] at hsm
      obtain ⟨k4, hk4⟩ := hsm.rounds
      have HSM := Aside0.mk hk4
      clear hsm htm hv hk4
      refine start_ (n := 11) (S := (fun w' => w'.cell? ⟨wa.heap.size, 0, none⟩ = some (.int .i64 u.f0) ∧ w'.cell? ⟨wa.heap.size, 1, none⟩ = some (.int .i64 u.f1) ∧ w'.cell? ⟨wa.heap.size, 2, none⟩ = some (.slice Au u.f2.length cu) ∧ w'.cell? ⟨wa.heap.size, 3, none⟩ = some (.string u.f3) ∧ w'.cell? ⟨w4.heap.size, 0, none⟩ = some (.int .i64 s.f0) ∧ w'.cell? ⟨w4.heap.size, 1, none⟩ = some (.int .i64 s.f1) ∧ w'.cell? ⟨w4.heap.size, 2, none⟩ = some (.slice As s.f2.length cs) ∧ w'.cell? ⟨w4.heap.size, 3, none⟩ = some (.string s.f3) ∧ w'.cell? ⟨w4.heap.size + 1, 0, none⟩ = some (.int .i64 t.f0) ∧ w'.cell? ⟨w4.heap.size + 1, 1, none⟩ = some (.int .i64 t.f1) ∧ w'.cell? ⟨w4.heap.size + 1, 2, none⟩ = some (.slice At t.f2.length ct) ∧ w'.cell? ⟨w4.heap.size + 1, 3, none⟩ = some (.string t.f3))) (ds := []) #[false, false, false, false, false, false, false, false, false, false, false] (by kernel_rfl) rfl rfl ⟨(blk_cell UH_0.out 0).trans rfl, (blk_cell UH_0.out 1).trans rfl, (blk_cell UH_0.out 2).trans rfl, (blk_cell UH_0.out 3).trans rfl, (blk_cell SH_0.out 0).trans rfl, (blk_cell SH_0.out 1).trans rfl, (blk_cell SH_0.out 2).trans rfl, (blk_cell SH_0.out 3).trans rfl, (blk_cell TH_0.out 0).trans rfl, (blk_cell TH_0.out 1).trans rfl, (blk_cell TH_0.out 2).trans rfl, (blk_cell TH_0.out 3).trans rfl⟩ (fun hHeld => ?_)
      refine take_ (i := 0) (N := some 130) (v := ?_) (a' := ?_) #[true, false, false, false, false, false, false, false, false, false, false] rfl rfl (by kernel_rfl) (fun _ _ _ h => h) (Or.inl ⟨by rfl, ?_⟩) (by first | exact hHeld | assumption) ?_ ?_
      rotate_left
      ·rintro w' ⟨s0, s1, s2, s3, s4, s5, s6, s7, s8, s9, s10, s11⟩
       go_simp
       with_reducible rfl
      rotate_left
      ·simp only [Act.put, List.setIfInBounds_toArray, List.set_cons_zero, List.set_cons_succ]
       rfl
      refine take_ (i := 2) (N := some 132) (v := ?_) (a' := ?_) #[true, false, true, false, false, false, false, false, false, false, false] rfl rfl (by kernel_rfl) (fun _ _ _ h => h) (Or.inl ⟨by rfl, ?_⟩) (by first | exact hHeld | assumption) ?_ ?_
      rotate_left
      ·rintro w' ⟨s0, s1, s2, s3, s4, s5, s6, s7, s8, s9, s10, s11⟩
       go_simp
       with_reducible rfl
      rotate_left
      ·simp only [Act.put, List.setIfInBounds_toArray, List.set_cons_zero, List.set_cons_succ]
       rfl
      refine one_ (i := 1) (N := some 131) #[true, true, true, false, false, false, false, false, false, false, false] rfl rfl (by kernel_rfl) (by decide) (fun K hK => ?_)
      refine call_ 13 #[.agg #[.int .i64 u.f0, .int .i64 u.f1, .slice Au u.f2.length cu, .string u.f3]] (by rfl) rfl (by first | (go_simp; done) | (go_simp; rfl)) ?_
      refine (ref_calls u.f0 u.f1 Au u.f2.length cu u.f3 wE.drew).mono ?_
      rintro e wh1 ⟨rfl, hbh0⟩
      have UH_1 := Aside0.mk (blk_below UH_0.out hbh0)
      have SH_1 := Aside0.mk (blk_below SH_0.out hbh0)
      have TH_1 := Aside0.mk (blk_below TH_0.out hbh0)
      have BH_1 := Aside0.mk (below_step BH_0.out hbh0)
      have EH_1 := Aside0.mk (EH_0.out.trans (hbh0.mono EH_0.out.size))
      have DH_1 := Aside0.mk (DH_0.out.trans (hbh0.mono DH_0.out.size))
      clear hbh0
      refine ⟨_, rfl, hK.out _ _ ⟨(blk_cell UH_1.out 0).trans rfl, (blk_cell UH_1.out 1).trans rfl, (blk_cell UH_1.out 2).trans rfl, (blk_cell UH_1.out 3).trans rfl, (blk_cell SH_1.out 0).trans rfl, (blk_cell SH_1.out 1).trans rfl, (blk_cell SH_1.out 2).trans rfl, (blk_cell SH_1.out 3).trans rfl, (blk_cell TH_1.out 0).trans rfl, (blk_cell TH_1.out 1).trans rfl, (blk_cell TH_1.out 2).trans rfl, (blk_cell TH_1.out 3).trans rfl⟩ (fun hHeld => ?_)⟩
      clear hK K
      refine norm_ (a' := ?_) ?_ ?_
      rotate_left
      ·show Act.put _ (some 131) _ = _
       simp only [Act.put, List.setIfInBounds_toArray, List.set_cons_zero, List.set_cons_succ]
       rfl
      refine one_ (i := 3) (N := some 133) #[true, true, true, true, false, false, false, false, false, false, false] rfl rfl (by kernel_rfl) (by decide) (fun K hK => ?_)
      refine call_ 19 #[.agg #[.int .i64 u.f0, .int .i64 u.f1, .slice Au u.f2.length cu, .string u.f3], .agg #[.int .i64 s.f0, .int .i64 s.f1, .slice As s.f2.length cs, .string s.f3]] (by rfl) rfl (by first | (go_simp; done) | (go_simp; rfl)) ?_
      refine (stowageref07_Same.calls k4 u.f0 u.f1 Au cu u.f2 u.f3 s.f0 s.f1 As cs s.f2 s.f3 true wh1 (Kd.C_below CU.out DH_1.out) LCU.out (Kd.C_below CS.out EH_1.out) LCS.out HSM.out).mono ?_
      rintro e wh2 ⟨rfl, hbh1⟩
      have UH_2 := Aside0.mk (blk_below UH_1.out hbh1)
      have SH_2 := Aside0.mk (blk_below SH_1.out hbh1)
      have TH_2 := Aside0.mk (blk_below TH_1.out hbh1)
      have BH_2 := Aside0.mk (below_step BH_1.out hbh1)
      have EH_2 := Aside0.mk (EH_1.out.trans (hbh1.mono EH_1.out.size))
      have DH_2 := Aside0.mk (DH_1.out.trans (hbh1.mono DH_1.out.size))
      clear hbh1
      refine ⟨_, rfl, hK.out _ _ ⟨(blk_cell UH_2.out 0).trans rfl, (blk_cell UH_2.out 1).trans rfl, (blk_cell UH_2.out 2).trans rfl, (blk_cell UH_2.out 3).trans rfl, (blk_cell SH_2.out 0).trans rfl, (blk_cell SH_2.out 1).trans rfl, (blk_cell SH_2.out 2).trans rfl, (blk_cell SH_2.out 3).trans rfl, (blk_cell TH_2.out 0).trans rfl, (blk_cell TH_2.out 1).trans rfl, (blk_cell TH_2.out 2).trans rfl, (blk_cell TH_2.out 3).trans rfl⟩ (fun hHeld => ?_)⟩
      clear hK K
      refine norm_ (a' := ?_) ?_ ?_
      rotate_left
      ·show Act.put _ (some 133) _ = _
       simp only [Act.put, List.setIfInBounds_toArray, List.set_cons_zero, List.set_cons_succ]
       rfl
      refine pure_ (i := 4) (N := some 134) (v := ?_) (a' := ?_) #[true, true, true, true, true, false, false, false, false, false, false] rfl rfl (by kernel_rfl) (fun _ _ _ h => h) (Or.inl ⟨by rfl, ?_⟩) ?_ ?_
      rotate_left
      ·intro w'
       go_simp
       with_reducible rfl
      rotate_left
      ·simp only [Act.put, List.setIfInBounds_toArray, List.set_cons_zero, List.set_cons_succ]
       rfl
      refine pure_ (i := 5) (N := some 135) (v := undef) (a' := ?_) #[true, true, true, true, true, true, false, false, false, false, false] rfl rfl (by kernel_rfl) (fun _ _ _ h => h) (Or.inr ⟨by rfl, rfl⟩) ?_ ?_
      rotate_left
      ·simp only [Act.put, List.setIfInBounds_toArray, List.set_cons_zero, List.set_cons_succ]
       rfl
      refine pure_ (i := 6) (N := some 136) (v := undef) (a' := ?_) #[true, true, true, true, true, true, true, false, false, false, false] rfl rfl (by kernel_rfl) (fun _ _ _ h => h) (Or.inr ⟨by rfl, rfl⟩) ?_ ?_
      rotate_left
      ·simp only [Act.put, List.setIfInBounds_toArray, List.set_cons_zero, List.set_cons_succ]
       rfl
      refine pure_ (i := 7) (N := some 137) (v := undef) (a' := ?_) #[true, true, true, true, true, true, true, true, false, false, false] rfl rfl (by kernel_rfl) (fun _ _ _ h => h) (Or.inr ⟨by rfl, rfl⟩) ?_ ?_
      rotate_left
      ·simp only [Act.put, List.setIfInBounds_toArray, List.set_cons_zero, List.set_cons_succ]
       rfl
      refine pure_ (i := 8) (N := some 138) (v := undef) (a' := ?_) #[true, true, true, true, true, true, true, true, true, false, false] rfl rfl (by kernel_rfl) (fun _ _ _ h => h) (Or.inr ⟨by rfl, rfl⟩) ?_ ?_
      rotate_left
      ·simp only [Act.put, List.setIfInBounds_toArray, List.set_cons_zero, List.set_cons_succ]
       rfl
      refine pure_ (i := 9) (N := some 139) (v := ?_) (a' := ?_) #[true, true, true, true, true, true, true, true, true, true, false] rfl rfl (by kernel_rfl) (fun _ _ _ h => h) (Or.inl ⟨by rfl, ?_⟩) ?_ ?_
      rotate_left
      ·intro w'
       go_simp
       with_reducible rfl
      rotate_left
      ·simp only [Act.put, List.setIfInBounds_toArray, List.set_cons_zero, List.set_cons_succ]
       rfl
      refine pure_ (i := 10) (N := some 4) (v := ?_) (a' := ?_) #[true, true, true, true, true, true, true, true, true, true, true] rfl rfl (by kernel_rfl) (fun _ _ _ h => h) (Or.inl ⟨by rfl, ?_⟩) ?_ ?_
      rotate_left
      ·intro w'
       go_simp
       with_reducible rfl
      rotate_left
      ·simp only [Act.put, List.setIfInBounds_toArray, List.set_cons_zero, List.set_cons_succ]
       rfl
      refine done_ (by kernel_rfl) ?_
      clear hHeld
      go_wp2
      go_ret
      exact ⟨rfl, BH_2.out⟩
     ·rw [hv] at hsm
      obtain ⟨k4, hk4⟩ := hsm.rounds
      obtain ⟨k5, hk5⟩ := (htm hut).rounds
      have HSM := Aside0.mk hk4
      have HTM := Aside0.mk hk5
      clear hsm htm hv hk4 hk5 hut
      refine start_ (n := 11) (S := (fun w' => w'.cell? ⟨wa.heap.size, 0, none⟩ = some (.int .i64 u.f0) ∧ w'.cell? ⟨wa.heap.size, 1, none⟩ = some (.int .i64 u.f1) ∧ w'.cell? ⟨wa.heap.size, 2, none⟩ = some (.slice Au u.f2.length cu) ∧ w'.cell? ⟨wa.heap.size, 3, none⟩ = some (.string u.f3) ∧ w'.cell? ⟨w4.heap.size, 0, none⟩ = some (.int .i64 s.f0) ∧ w'.cell? ⟨w4.heap.size, 1, none⟩ = some (.int .i64 s.f1) ∧ w'.cell? ⟨w4.heap.size, 2, none⟩ = some (.slice As s.f2.length cs) ∧ w'.cell? ⟨w4.heap.size, 3, none⟩ = some (.string s.f3) ∧ w'.cell? ⟨w4.heap.size + 1, 0, none⟩ = some (.int .i64 t.f0) ∧ w'.cell? ⟨w4.heap.size + 1, 1, none⟩ = some (.int .i64 t.f1) ∧ w'.cell? ⟨w4.heap.size + 1, 2, none⟩ = some (.slice At t.f2.length ct) ∧ w'.cell? ⟨w4.heap.size + 1, 3, none⟩ = some (.string t.f3))) (ds := []) #[false, false, false, false, false, false, false, false, false, false, false] (by kernel_rfl) rfl rfl ⟨(blk_cell UH_0.out 0).trans rfl, (blk_cell UH_0.out 1).trans rfl, (blk_cell UH_0.out 2).trans rfl, (blk_cell UH_0.out 3).trans rfl, (blk_cell SH_0.out 0).trans rfl, (blk_cell SH_0.out 1).trans rfl, (blk_cell SH_0.out 2).trans rfl, (blk_cell SH_0.out 3).trans rfl, (blk_cell TH_0.out 0).trans rfl, (blk_cell TH_0.out 1).trans rfl, (blk_cell TH_0.out 2).trans rfl, (blk_cell TH_0.out 3).trans rfl⟩ (fun hHeld => ?_)
      refine take_ (i := 0) (N := some 130) (v := ?_) (a' := ?_) #[true, false, false, false, false, false, false, false, false, false, false] rfl rfl (by kernel_rfl) (fun _ _ _ h => h) (Or.inl ⟨by rfl, ?_⟩) (by first | exact hHeld | assumption) ?_ ?_
      rotate_left
      ·rintro w' ⟨s0, s1, s2, s3, s4, s5, s6, s7, s8, s9, s10, s11⟩
       go_simp
       with_reducible rfl
      rotate_left
      ·simp only [Act.put, List.setIfInBounds_toArray, List.set_cons_zero, List.set_cons_succ]
       rfl
      refine take_ (i := 2) (N := some 132) (v := ?_) (a' := ?_) #[true, false, true, false, false, false, false, false, false, false, false] rfl rfl (by kernel_rfl) (fun _ _ _ h => h) (Or.inl ⟨by rfl, ?_⟩) (by first | exact hHeld | assumption) ?_ ?_
      rotate_left
      ·rintro w' ⟨s0, s1, s2, s3, s4, s5, s6, s7, s8, s9, s10, s11⟩
       go_simp
       with_reducible rfl
      rotate_left
      ·simp only [Act.put, List.setIfInBounds_toArray, List.set_cons_zero, List.set_cons_succ]
       rfl
      refine one_ (i := 1) (N := some 131) #[true, true, true, false, false, false, false, false, false, false, false] rfl rfl (by kernel_rfl) (by decide) (fun K hK => ?_)
      refine call_ 13 #[.agg #[.int .i64 u.f0, .int .i64 u.f1, .slice Au u.f2.length cu, .string u.f3]] (by rfl) rfl (by first | (go_simp; done) | (go_simp; rfl)) ?_
      refine (ref_calls u.f0 u.f1 Au u.f2.length cu u.f3 wE.drew).mono ?_
      rintro e wh1 ⟨rfl, hbh0⟩
      have UH_1 := Aside0.mk (blk_below UH_0.out hbh0)
      have SH_1 := Aside0.mk (blk_below SH_0.out hbh0)
      have TH_1 := Aside0.mk (blk_below TH_0.out hbh0)
      have BH_1 := Aside0.mk (below_step BH_0.out hbh0)
      have EH_1 := Aside0.mk (EH_0.out.trans (hbh0.mono EH_0.out.size))
      have DH_1 := Aside0.mk (DH_0.out.trans (hbh0.mono DH_0.out.size))
      clear hbh0
      refine ⟨_, rfl, hK.out _ _ ⟨(blk_cell UH_1.out 0).trans rfl, (blk_cell UH_1.out 1).trans rfl, (blk_cell UH_1.out 2).trans rfl, (blk_cell UH_1.out 3).trans rfl, (blk_cell SH_1.out 0).trans rfl, (blk_cell SH_1.out 1).trans rfl, (blk_cell SH_1.out 2).trans rfl, (blk_cell SH_1.out 3).trans rfl, (blk_cell TH_1.out 0).trans rfl, (blk_cell TH_1.out 1).trans rfl, (blk_cell TH_1.out 2).trans rfl, (blk_cell TH_1.out 3).trans rfl⟩ (fun hHeld => ?_)⟩
      clear hK K
      refine norm_ (a' := ?_) ?_ ?_
      rotate_left
      ·show Act.put _ (some 131) _ = _
       simp only [Act.put, List.setIfInBounds_toArray, List.set_cons_zero, List.set_cons_succ]
       rfl
      refine one_ (i := 3) (N := some 133) #[true, true, true, true, false, false, false, false, false, false, false] rfl rfl (by kernel_rfl) (by decide) (fun K hK => ?_)
      refine call_ 19 #[.agg #[.int .i64 u.f0, .int .i64 u.f1, .slice Au u.f2.length cu, .string u.f3], .agg #[.int .i64 s.f0, .int .i64 s.f1, .slice As s.f2.length cs, .string s.f3]] (by rfl) rfl (by first | (go_simp; done) | (go_simp; rfl)) ?_
      refine (stowageref07_Same.calls k4 u.f0 u.f1 Au cu u.f2 u.f3 s.f0 s.f1 As cs s.f2 s.f3 false wh1 (Kd.C_below CU.out DH_1.out) LCU.out (Kd.C_below CS.out EH_1.out) LCS.out HSM.out).mono ?_
      rintro e wh2 ⟨rfl, hbh1⟩
      have UH_2 := Aside0.mk (blk_below UH_1.out hbh1)
      have SH_2 := Aside0.mk (blk_below SH_1.out hbh1)
      have TH_2 := Aside0.mk (blk_below TH_1.out hbh1)
      have BH_2 := Aside0.mk (below_step BH_1.out hbh1)
      have EH_2 := Aside0.mk (EH_1.out.trans (hbh1.mono EH_1.out.size))
      have DH_2 := Aside0.mk (DH_1.out.trans (hbh1.mono DH_1.out.size))
      clear hbh1
      refine ⟨_, rfl, hK.out _ _ ⟨(blk_cell UH_2.out 0).trans rfl, (blk_cell UH_2.out 1).trans rfl, (blk_cell UH_2.out 2).trans rfl, (blk_cell UH_2.out 3).trans rfl, (blk_cell SH_2.out 0).trans rfl, (blk_cell SH_2.out 1).trans rfl, (blk_cell SH_2.out 2).trans rfl, (blk_cell SH_2.out 3).trans rfl, (blk_cell TH_2.out 0).trans rfl, (blk_cell TH_2.out 1).trans rfl, (blk_cell TH_2.out 2).trans rfl, (blk_cell TH_2.out 3).trans rfl⟩ (fun hHeld => ?_)⟩
      clear hK K
      refine norm_ (a' := ?_) ?_ ?_
      rotate_left
      ·show Act.put _ (some 133) _ = _
       simp only [Act.put, List.setIfInBounds_toArray, List.set_cons_zero, List.set_cons_succ]
       rfl
      refine pure_ (i := 4) (N := some 134) (v := ?_) (a' := ?_) #[true, true, true, true, true, false, false, false, false, false, false] rfl rfl (by kernel_rfl) (fun _ _ _ h => h) (Or.inl ⟨by rfl, ?_⟩) ?_ ?_
      rotate_left
      ·intro w'
       go_simp
       with_reducible rfl
      rotate_left
      ·simp only [Act.put, List.setIfInBounds_toArray, List.set_cons_zero, List.set_cons_succ]
       rfl
      refine take_ (i := 5) (N := some 135) (v := ?_) (a' := ?_) #[true, true, true, true, true, true, false, false, false, false, false] rfl rfl (by kernel_rfl) (fun _ _ _ h => h) (Or.inl ⟨by rfl, ?_⟩) (by first | exact hHeld | assumption) ?_ ?_
      rotate_left
      ·rintro w' ⟨s0, s1, s2, s3, s4, s5, s6, s7, s8, s9, s10, s11⟩
       go_simp
       with_reducible rfl
      rotate_left
      ·simp only [Act.put, List.setIfInBounds_toArray, List.set_cons_zero, List.set_cons_succ]
       rfl
      refine take_ (i := 7) (N := some 137) (v := ?_) (a' := ?_) #[true, true, true, true, true, true, false, true, false, false, false] rfl rfl (by kernel_rfl) (fun _ _ _ h => h) (Or.inl ⟨by rfl, ?_⟩) (by first | exact hHeld | assumption) ?_ ?_
      rotate_left
      ·rintro w' ⟨s0, s1, s2, s3, s4, s5, s6, s7, s8, s9, s10, s11⟩
       go_simp
       with_reducible rfl
      rotate_left
      ·simp only [Act.put, List.setIfInBounds_toArray, List.set_cons_zero, List.set_cons_succ]
       rfl
      refine one_ (i := 6) (N := some 136) #[true, true, true, true, true, true, true, true, false, false, false] rfl rfl (by kernel_rfl) (by decide) (fun K hK => ?_)
      refine call_ 13 #[.agg #[.int .i64 u.f0, .int .i64 u.f1, .slice Au u.f2.length cu, .string u.f3]] (by rfl) rfl (by first | (go_simp; done) | (go_simp; rfl)) ?_
      refine (ref_calls u.f0 u.f1 Au u.f2.length cu u.f3 wh2).mono ?_
      rintro e wh3 ⟨rfl, hbh2⟩
      have UH_3 := Aside0.mk (blk_below UH_2.out hbh2)
      have SH_3 := Aside0.mk (blk_below SH_2.out hbh2)
      have TH_3 := Aside0.mk (blk_below TH_2.out hbh2)
      have BH_3 := Aside0.mk (below_step BH_2.out hbh2)
      have EH_3 := Aside0.mk (EH_2.out.trans (hbh2.mono EH_2.out.size))
      have DH_3 := Aside0.mk (DH_2.out.trans (hbh2.mono DH_2.out.size))
      clear hbh2
      refine ⟨_, rfl, hK.out _ _ ⟨(blk_cell UH_3.out 0).trans rfl, (blk_cell UH_3.out 1).trans rfl, (blk_cell UH_3.out 2).trans rfl, (blk_cell UH_3.out 3).trans rfl, (blk_cell SH_3.out 0).trans rfl, (blk_cell SH_3.out 1).trans rfl, (blk_cell SH_3.out 2).trans rfl, (blk_cell SH_3.out 3).trans rfl, (blk_cell TH_3.out 0).trans rfl, (blk_cell TH_3.out 1).trans rfl, (blk_cell TH_3.out 2).trans rfl, (blk_cell TH_3.out 3).trans rfl⟩ (fun hHeld => ?_)⟩
      clear hK K
      refine norm_ (a' := ?_) ?_ ?_
      rotate_left
      ·show Act.put _ (some 136) _ = _
       simp only [Act.put, List.setIfInBounds_toArray, List.set_cons_zero, List.set_cons_succ]
       rfl
      refine one_ (i := 8) (N := some 138) #[true, true, true, true, true, true, true, true, true, false, false] rfl rfl (by kernel_rfl) (by decide) (fun K hK => ?_)
      refine call_ 19 #[.agg #[.int .i64 u.f0, .int .i64 u.f1, .slice Au u.f2.length cu, .string u.f3], .agg #[.int .i64 t.f0, .int .i64 t.f1, .slice At t.f2.length ct, .string t.f3]] (by rfl) rfl (by first | (go_simp; done) | (go_simp; rfl)) ?_
      refine (stowageref07_Same.calls k5 u.f0 u.f1 Au cu u.f2 u.f3 t.f0 t.f1 At ct t.f2 t.f3 true wh3 (Kd.C_below CU.out DH_3.out) LCU.out (Kd.C_below CT.out EH_3.out) LCT.out HTM.out).mono ?_
      rintro e wh4 ⟨rfl, hbh3⟩
      have UH_4 := Aside0.mk (blk_below UH_3.out hbh3)
      have SH_4 := Aside0.mk (blk_below SH_3.out hbh3)
      have TH_4 := Aside0.mk (blk_below TH_3.out hbh3)
      have BH_4 := Aside0.mk (below_step BH_3.out hbh3)
      have EH_4 := Aside0.mk (EH_3.out.trans (hbh3.mono EH_3.out.size))
      have DH_4 := Aside0.mk (DH_3.out.trans (hbh3.mono DH_3.out.size))
      clear hbh3
      refine ⟨_, rfl, hK.out _ _ ⟨(blk_cell UH_4.out 0).trans rfl, (blk_cell UH_4.out 1).trans rfl, (blk_cell UH_4.out 2).trans rfl, (blk_cell UH_4.out 3).trans rfl, (blk_cell SH_4.out 0).trans rfl, (blk_cell SH_4.out 1).trans rfl, (blk_cell SH_4.out 2).trans rfl, (blk_cell SH_4.out 3).trans rfl, (blk_cell TH_4.out 0).trans rfl, (blk_cell TH_4.out 1).trans rfl, (blk_cell TH_4.out 2).trans rfl, (blk_cell TH_4.out 3).trans rfl⟩ (fun hHeld => ?_)⟩
      clear hK K
      refine norm_ (a' := ?_) ?_ ?_
      rotate_left
      ·show Act.put _ (some 138) _ = _
       simp only [Act.put, List.setIfInBounds_toArray, List.set_cons_zero, List.set_cons_succ]
       rfl
      refine pure_ (i := 9) (N := some 139) (v := ?_) (a' := ?_) #[true, true, true, true, true, true, true, true, true, true, false] rfl rfl (by kernel_rfl) (fun _ _ _ h => h) (Or.inl ⟨by rfl, ?_⟩) ?_ ?_
      rotate_left
      ·intro w'
       go_simp
       with_reducible rfl
      rotate_left
      ·simp only [Act.put, List.setIfInBounds_toArray, List.set_cons_zero, List.set_cons_succ]
       rfl
      refine pure_ (i := 10) (N := some 4) (v := ?_) (a' := ?_) #[true, true, true, true, true, true, true, true, true, true, true] rfl rfl (by kernel_rfl) (fun _ _ _ h => h) (Or.inl ⟨by rfl, ?_⟩) ?_ ?_
      rotate_left
      ·intro w'
       go_simp
       with_reducible rfl
      rotate_left
      ·simp only [Act.put, List.setIfInBounds_toArray, List.set_cons_zero, List.set_cons_succ]
       rfl
      refine done_ (by kernel_rfl) ?_
      clear hHeld
      go_wp2
      go_ret
      exact ⟨rfl, BH_4.out⟩
    ·have g0 : ((u.f2.length : Int) > 0) = True := eq_true (by omega)
     have g1 : (0 < (u.f2.length : Int)) = True := eq_true (by omega)
     have g2 : (0 < u.f2.length) = True := eq_true hl0
     rw [hl1]
     clear hl0 hl1
     go_upto_region 27 with (fail)
     generalize wa.alloc (.cells #[.int .i64 u.f0, .int .i64 u.f1, .slice Au u.f2.length cu, .string u.f3] 24 (0, 0)) = wE at ZB SB TB BB DB ⊢
     obtain ⟨As, cs, s6, hcs, hCs, hls⟩ := SB.out
     obtain ⟨At, ct, t7, hct, hCt, hlt7⟩ := TB.out
     have BE := Aside0.mk (BA.out.trans (BB.out.mono BA.out.size))
     have CS := Aside0.mk hCs
     have CT := Aside0.mk hCt
     have LCS := Aside0.mk hcs
     have LCT := Aside0.mk hct
     have UH_0 := Aside0.mk (blk_drew ZB.out)
     have SH_0 := Aside0.mk (blk_drew s6)
     have TH_0 := Aside0.mk (blk_drew t7)
     have BH_0 := Aside0.mk (below_drew1 BE.out)
     have EH_0 : Aside0 (Below w.heap.size w wE.drew) := ⟨below_drew1 BE.out⟩
     have DH_0 := Aside0.mk DB.out.drew
     have hul : u.f2.length ≤ 1000000000000000000 := hst.elim (fun h => h ▸ hls) (fun h => h ▸ hlt7)
     have hsm := same_ev u.f0 u.f1 u.f2 u.f3 s.f0 s.f1 s.f2 s.f3 hul
     have htm : u = t → Ev (fun k => stowageref07_Same.f k u.f0 u.f1 u.f2 u.f3 t.f0 t.f1 t.f2 t.f3) true := fun h => by
      have := same_ev u.f0 u.f1 u.f2 u.f3 t.f0 t.f1 t.f2 t.f3 hul
      rw [h, sameS_refl] at this
      rw [h]; exact this
     have hv : sameS u.f0 u.f1 u.f2 u.f3 s.f0 s.f1 s.f2 s.f3 = true ∨ (sameS u.f0 u.f1 u.f2 u.f3 s.f0 s.f1 s.f2 s.f3 = false ∧ u = t) := by
      rcases hst with h | h
      ·left; rw [h]; exact sameS_refl _ _ _ _
      ·cases hx : sameS u.f0 u.f1 u.f2 u.f3 s.f0 s.f1 s.f2 s.f3 with
       | true => exact Or.inl rfl
       | false => exact Or.inr ⟨rfl, h⟩
     clear hst hls hlt7 hul SB TB ZB DB BB s6 t7 hcs hct hCs hCt
     rcases hv with hv | ⟨hv, hut⟩
     ·rw [hv] at hsm
      obtain ⟨k4, hk4⟩ := hsm.rounds
      have HSM := Aside0.mk hk4
      clear hsm htm hv hk4
      refine start_ (n := 11) (S := (fun w' => w'.cell? ⟨wa.heap.size, 0, none⟩ = some (.int .i64 u.f0) ∧ w'.cell? ⟨wa.heap.size, 1, none⟩ = some (.int .i64 u.f1) ∧ w'.cell? ⟨wa.heap.size, 2, none⟩ = some (.slice Au u.f2.length cu) ∧ w'.cell? ⟨wa.heap.size, 3, none⟩ = some (.string u.f3) ∧ w'.cell? ⟨w4.heap.size, 0, none⟩ = some (.int .i64 s.f0) ∧ w'.cell? ⟨w4.heap.size, 1, none⟩ = some (.int .i64 s.f1) ∧ w'.cell? ⟨w4.heap.size, 2, none⟩ = some (.slice As s.f2.length cs) ∧ w'.cell? ⟨w4.heap.size, 3, none⟩ = some (.string s.f3) ∧ w'.cell? ⟨w4.heap.size + 1, 0, none⟩ = some (.int .i64 t.f0) ∧ w'.cell? ⟨w4.heap.size + 1, 1, none⟩ = some (.int .i64 t.f1) ∧ w'.cell? ⟨w4.heap.size + 1, 2, none⟩ = some (.slice At t.f2.length ct) ∧ w'.cell? ⟨w4.heap.size + 1, 3, none⟩ = some (.string t.f3))) (ds := []) #[false, false, false, false, false, false, false, false, false, false, false] (by kernel_rfl) rfl rfl ⟨(blk_cell UH_0.out 0).trans rfl, (blk_cell UH_0.out 1).trans rfl, (blk_cell UH_0.out 2).trans rfl, (blk_cell UH_0.out 3).trans rfl, (blk_cell SH_0.out 0).trans rfl, (blk_cell SH_0.out 1).trans rfl, (blk_cell SH_0.out 2).trans rfl, (blk_cell SH_0.out 3).trans rfl, (blk_cell TH_0.out 0).trans rfl, (blk_cell TH_0.out 1).trans rfl, (blk_cell TH_0.out 2).trans rfl, (blk_cell TH_0.out 3).trans rfl⟩ (fun hHeld => ?_)
      refine take_ (i := 0) (N := some 130) (v := ?_) (a' := ?_) #[true, false, false, false, false, false, false, false, false, false, false] rfl rfl (by kernel_rfl) (fun _ _ _ h => h) (Or.inl ⟨by rfl, ?_⟩) (by first | exact hHeld | assumption) ?_ ?_
      rotate_left
      ·rintro w' ⟨s0, s1, s2, s3, s4, s5, s6, s7, s8, s9, s10, s11⟩
       go_simp
       with_reducible rfl
      rotate_left
      ·simp only [Act.put, List.setIfInBounds_toArray, List.set_cons_zero, List.set_cons_succ]
       rfl
      refine take_ (i := 2) (N := some 132) (v := ?_) (a' := ?_) #[true, false, true, false, false, false, false, false, false, false, false] rfl rfl (by kernel_rfl) (fun _ _ _ h => h) (Or.inl ⟨by rfl, ?_⟩) (by first | exact hHeld | assumption) ?_ ?_
      rotate_left
      ·rintro w' ⟨s0, s1, s2, s3, s4, s5, s6, s7, s8, s9, s10, s11⟩
       go_simp
       with_reducible rfl
      rotate_left
      ·simp only [Act.put, List.setIfInBounds_toArray, List.set_cons_zero, List.set_cons_succ]
       rfl
      refine one_ (i := 1) (N := some 131) #[true, true, true, false, false, false, false, false, false, false, false] rfl rfl (by kernel_rfl) (by decide) (fun K hK => ?_)
      refine call_ 13 #[.agg #[.int .i64 u.f0, .int .i64 u.f1, .slice Au u.f2.length cu, .string u.f3]] (by rfl) rfl (by first | (go_simp; done) | (go_simp; rfl)) ?_
      refine (ref_calls u.f0 u.f1 Au u.f2.length cu u.f3 wE.drew).mono ?_
      rintro e wh1 ⟨rfl, hbh0⟩
      have UH_1 := Aside0.mk (blk_below UH_0.out hbh0)
      have SH_1 := Aside0.mk (blk_below SH_0.out hbh0)
      have TH_1 := Aside0.mk (blk_below TH_0.out hbh0)
      have BH_1 := Aside0.mk (below_step BH_0.out hbh0)
      have EH_1 := Aside0.mk (EH_0.out.trans (hbh0.mono EH_0.out.size))
      have DH_1 := Aside0.mk (DH_0.out.trans (hbh0.mono DH_0.out.size))
      clear hbh0
      refine ⟨_, rfl, hK.out _ _ ⟨(blk_cell UH_1.out 0).trans rfl, (blk_cell UH_1.out 1).trans rfl, (blk_cell UH_1.out 2).trans rfl, (blk_cell UH_1.out 3).trans rfl, (blk_cell SH_1.out 0).trans rfl, (blk_cell SH_1.out 1).trans rfl, (blk_cell SH_1.out 2).trans rfl, (blk_cell SH_1.out 3).trans rfl, (blk_cell TH_1.out 0).trans rfl, (blk_cell TH_1.out 1).trans rfl, (blk_cell TH_1.out 2).trans rfl, (blk_cell TH_1.out 3).trans rfl⟩ (fun hHeld => ?_)⟩
      clear hK K
      refine norm_ (a' := ?_) ?_ ?_
      rotate_left
      ·show Act.put _ (some 131) _ = _
       simp only [Act.put, List.setIfInBounds_toArray, List.set_cons_zero, List.set_cons_succ]
       rfl
      refine one_ (i := 3) (N := some 133) #[true, true, true, true, false, false, false, false, false, false, false] rfl rfl (by kernel_rfl) (by decide) (fun K hK => ?_)
      refine call_ 19 #[.agg #[.int .i64 u.f0, .int .i64 u.f1, .slice Au u.f2.length cu, .string u.f3], .agg #[.int .i64 s.f0, .int .i64 s.f1, .slice As s.f2.length cs, .string s.f3]] (by rfl) rfl (by first | (go_simp; done) | (go_simp; rfl)) ?_
      refine (stowageref07_Same.calls k4 u.f0 u.f1 Au cu u.f2 u.f3 s.f0 s.f1 As cs s.f2 s.f3 true wh1 (Kd.C_below CU.out DH_1.out) LCU.out (Kd.C_below CS.out EH_1.out) LCS.out HSM.out).mono ?_
      rintro e wh2 ⟨rfl, hbh1⟩
      have UH_2 := Aside0.mk (blk_below UH_1.out hbh1)
      have SH_2 := Aside0.mk (blk_below SH_1.out hbh1)
      have TH_2 := Aside0.mk (blk_below TH_1.out hbh1)
      have BH_2 := Aside0.mk (below_step BH_1.out hbh1)
      have EH_2 := Aside0.mk (EH_1.out.trans (hbh1.mono EH_1.out.size))
      have DH_2 := Aside0.mk (DH_1.out.trans (hbh1.mono DH_1.out.size))
      clear hbh1
      refine ⟨_, rfl, hK.out _ _ ⟨(blk_cell UH_2.out 0).trans rfl, (blk_cell UH_2.out 1).trans rfl, (blk_cell UH_2.out 2).trans rfl, (blk_cell UH_2.out 3).trans rfl, (blk_cell SH_2.out 0).trans rfl, (blk_cell SH_2.out 1).trans rfl, (blk_cell SH_2.out 2).trans rfl, (blk_cell SH_2.out 3).trans rfl, (blk_cell TH_2.out 0).trans rfl, (blk_cell TH_2.out 1).trans rfl, (blk_cell TH_2.out 2).trans rfl, (blk_cell TH_2.out 3).trans rfl⟩ (fun hHeld => ?_)⟩
      clear hK K
      refine norm_ (a' := ?_) ?_ ?_
      rotate_left
      ·show Act.put _ (some 133) _ = _
       simp only [Act.put, List.setIfInBounds_toArray, List.set_cons_zero, List.set_cons_succ]
       rfl
      refine pure_ (i := 4) (N := some 134) (v := ?_) (a' := ?_) #[true, true, true, true, true, false, false, false, false, false, false] rfl rfl (by kernel_rfl) (fun _ _ _ h => h) (Or.inl ⟨by rfl, ?_⟩) ?_ ?_
      rotate_left
      ·intro w'
       go_simp
       with_reducible rfl
      rotate_left
      ·simp only [Act.put, List.setIfInBounds_toArray, List.set_cons_zero, List.set_cons_succ]
       rfl
      refine pure_ (i := 5) (N := some 135) (v := undef) (a' := ?_) #[true, true, true, true, true, true, false, false, false, false, false] rfl rfl (by kernel_rfl) (fun _ _ _ h => h) (Or.inr ⟨by rfl, rfl⟩) ?_ ?_
      rotate_left
      ·simp only [Act.put, List.setIfInBounds_toArray, List.set_cons_zero, List.set_cons_succ]
       rfl
      refine pure_ (i := 6) (N := some 136) (v := undef) (a' := ?_) #[true, true, true, true, true, true, true, false, false, false, false] rfl rfl (by kernel_rfl) (fun _ _ _ h => h) (Or.inr ⟨by rfl, rfl⟩) ?_ ?_
      rotate_left
      ·simp only [Act.put, List.setIfInBounds_toArray, List.set_cons_zero, List.set_cons_succ]
       rfl
      refine pure_ (i := 7) (N := some 137) (v := undef) (a' := ?_) #[true, true, true, true, true, true, true, true, false, false, false] rfl rfl (by kernel_rfl) (fun _ _ _ h => h) (Or.inr ⟨by rfl, rfl⟩) ?_ ?_
      rotate_left
      ·simp only [Act.put, List.setIfInBounds_toArray, List.set_cons_zero, List.set_cons_succ]
       rfl
      refine pure_ (i := 8) (N := some 138) (v := undef) (a' := ?_) #[true, true, true, true, true, true, true, true, true, false, false] rfl rfl (by kernel_rfl) (fun _ _ _ h => h) (Or.inr ⟨by rfl, rfl⟩) ?_ ?_
      rotate_left
      ·simp only [Act.put, List.setIfInBounds_toArray, List.set_cons_zero, List.set_cons_succ]
       rfl
      refine pure_ (i := 9) (N := some 139) (v := ?_) (a' := ?_) #[true, true, true, true, true, true, true, true, true, true, false] rfl rfl (by kernel_rfl) (fun _ _ _ h => h) (Or.inl ⟨by rfl, ?_⟩) ?_ ?_
      rotate_left
      ·intro w'
       go_simp
       with_reducible rfl
      rotate_left
      ·simp only [Act.put, List.setIfInBounds_toArray, List.set_cons_zero, List.set_cons_succ]
       rfl
      refine pure_ (i := 10) (N := some 4) (v := ?_) (a' := ?_) #[true, true, true, true, true, true, true, true, true, true, true] rfl rfl (by kernel_rfl) (fun _ _ _ h => h) (Or.inl ⟨by rfl, ?_⟩) ?_ ?_
      rotate_left
      ·intro w'
       go_simp
       with_reducible rfl
      rotate_left
      ·simp only [Act.put, List.setIfInBounds_toArray, List.set_cons_zero, List.set_cons_succ]
       rfl
      refine done_ (by kernel_rfl) ?_
      clear hHeld
      go_wp2
      go_ret
      exact ⟨rfl, BH_2.out⟩
     ·rw [hv] at hsm
      obtain ⟨k4, hk4⟩ := hsm.rounds
      obtain ⟨k5, hk5⟩ := (htm hut).rounds
      have HSM := Aside0.mk hk4
      have HTM := Aside0.mk hk5
      clear hsm htm hv hk4 hk5 hut
      refine start_ (n := 11) (S := (fun w' => w'.cell? ⟨wa.heap.size, 0, none⟩ = some (.int .i64 u.f0) ∧ w'.cell? ⟨wa.heap.size, 1, none⟩ = some (.int .i64 u.f1) ∧ w'.cell? ⟨wa.heap.size, 2, none⟩ = some (.slice Au u.f2.length cu) ∧ w'.cell? ⟨wa.heap.size, 3, none⟩ = some (.string u.f3) ∧ w'.cell? ⟨w4.heap.size, 0, none⟩ = some (.int .i64 s.f0) ∧ w'.cell? ⟨w4.heap.size, 1, none⟩ = some (.int .i64 s.f1) ∧ w'.cell? ⟨w4.heap.size, 2, none⟩ = some (.slice As s.f2.length cs) ∧ w'.cell? ⟨w4.heap.size, 3, none⟩ = some (.string s.f3) ∧ w'.cell? ⟨w4.heap.size + 1, 0, none⟩ = some (.int .i64 t.f0) ∧ w'.cell? ⟨w4.heap.size + 1, 1, none⟩ = some (.int .i64 t.f1) ∧ w'.cell? ⟨w4.heap.size + 1, 2, none⟩ = some (.slice At t.f2.length ct) ∧ w'.cell? ⟨w4.heap.size + 1, 3, none⟩ = some (.string t.f3))) (ds := []) #[false, false, false, false, false, false, false, false, false, false, false] (by kernel_rfl) rfl rfl ⟨(blk_cell UH_0.out 0).trans rfl, (blk_cell UH_0.out 1).trans rfl, (blk_cell UH_0.out 2).trans rfl, (blk_cell UH_0.out 3).trans rfl, (blk_cell SH_0.out 0).trans rfl, (blk_cell SH_0.out 1).trans rfl, (blk_cell SH_0.out 2).trans rfl, (blk_cell SH_0.out 3).trans rfl, (blk_cell TH_0.out 0).trans rfl, (blk_cell TH_0.out 1).trans rfl, (blk_cell TH_0.out 2).trans rfl, (blk_cell TH_0.out 3).trans rfl⟩ (fun hHeld => ?_)
      refine take_ (i := 0) (N := some 130) (v := ?_) (a' := ?_) #[true, false, false, false, false, false, false, false, false, false, false] rfl rfl (by kernel_rfl) (fun _ _ _ h => h) (Or.inl ⟨by rfl, ?_⟩) (by first | exact hHeld | assumption) ?_ ?_
      rotate_left
      ·rintro w' ⟨s0, s1, s2, s3, s4, s5, s6, s7, s8, s9, s10, s11⟩
       go_simp
       with_reducible rfl
      rotate_left
      ·simp only [Act.put, List.setIfInBounds_toArray, List.set_cons_zero, List.set_cons_succ]
       rfl
      refine take_ (i := 2) (N := some 132) (v := ?_) (a' := ?_) #[true, false, true, false, false, false, false, false, false, false, false] rfl rfl (by kernel_rfl) (fun _ _ _ h => h) (Or.inl ⟨by rfl, ?_⟩) (by first | exact hHeld | assumption) ?_ ?_
      rotate_left
      ·rintro w' ⟨s0, s1, s2, s3, s4, s5, s6, s7, s8, s9, s10, s11⟩
       go_simp
       with_reducible rfl
      rotate_left
      ·simp only [Act.put, List.setIfInBounds_toArray, List.set_cons_zero, List.set_cons_succ]
       rfl
      refine one_ (i := 1) (N := some 131) #[true, true, true, false, false, false, false, false, false, false, false] rfl rfl (by kernel_rfl) (by decide) (fun K hK => ?_)
      refine call_ 13 #[.agg #[.int .i64 u.f0, .int .i64 u.f1, .slice Au u.f2.length cu, .string u.f3]] (by rfl) rfl (by first | (go_simp; done) | (go_simp; rfl)) ?_
      refine (ref_calls u.f0 u.f1 Au u.f2.length cu u.f3 wE.drew).mono ?_
      rintro e wh1 ⟨rfl, hbh0⟩
      have UH_1 := Aside0.mk (blk_below UH_0.out hbh0)
      have SH_1 := Aside0.mk (blk_below SH_0.out hbh0)
      have TH_1 := Aside0.mk (blk_below TH_0.out hbh0)
      have BH_1 := Aside0.mk (below_step BH_0.out hbh0)
      have EH_1 := Aside0.mk (EH_0.out.trans (hbh0.mono EH_0.out.size))
      have DH_1 := Aside0.mk (DH_0.out.trans (hbh0.mono DH_0.out.size))
      clear hbh0
      refine ⟨_, rfl, hK.out _ _ ⟨(blk_cell UH_1.out 0).trans rfl, (blk_cell UH_1.out 1).trans rfl, (blk_cell UH_1.out 2).trans rfl, (blk_cell UH_1.out 3).trans rfl, (blk_cell SH_1.out 0).trans rfl, (blk_cell SH_1.out 1).trans rfl, (blk_cell SH_1.out 2).trans rfl, (blk_cell SH_1.out 3).trans rfl, (blk_cell TH_1.out 0).trans rfl, (blk_cell TH_1.out 1).trans rfl, (blk_cell TH_1.out 2).trans rfl, (blk_cell TH_1.out 3).trans rfl⟩ (fun hHeld => ?_)⟩
      clear hK K
      refine norm_ (a' := ?_) ?_ ?_
      rotate_left
      ·show Act.put _ (some 131) _ = _
       simp only [Act.put, List.setIfInBounds_toArray, List.set_cons_zero, List.set_cons_succ]
       rfl
      refine one_ (i := 3) (N := some 133) #[true, true, true, true, false, false, false, false, false, false, false] rfl rfl (by kernel_rfl) (by decide) (fun K hK => ?_)
      refine call_ 19 #[.agg #[.int .i64 u.f0, .int .i64 u.f1, .slice Au u.f2.length cu, .string u.f3], .agg #[.int .i64 s.f0, .int .i64 s.f1, .slice As s.f2.length cs, .string s.f3]] (by rfl) rfl (by first | (go_simp; done) | (go_simp; rfl)) ?_
      refine (stowageref07_Same.calls k4 u.f0 u.f1 Au cu u.f2 u.f3 s.f0 s.f1 As cs s.f2 s.f3 false wh1 (Kd.C_below CU.out DH_1.out) LCU.out (Kd.C_below CS.out EH_1.out) LCS.out HSM.out).mono ?_
      rintro e wh2 ⟨rfl, hbh1⟩
      have UH_2 := Aside0.mk (blk_below UH_1.out hbh1)
      have SH_2 := Aside0.mk (blk_below SH_1.out hbh1)
      have TH_2 := Aside0.mk (blk_below TH_1.out hbh1)
      have BH_2 := Aside0.mk (below_step BH_1.out hbh1)
      have EH_2 := Aside0.mk (EH_1.out.trans (hbh1.mono EH_1.out.size))
      have DH_2 := Aside0.mk (DH_1.out.trans (hbh1.mono DH_1.out.size))
      clear hbh1
      refine ⟨_, rfl, hK.out _ _ ⟨(blk_cell UH_2.out 0).trans rfl, (blk_cell UH_2.out 1).trans rfl, (blk_cell UH_2.out 2).trans rfl, (blk_cell UH_2.out 3).trans rfl, (blk_cell SH_2.out 0).trans rfl, (blk_cell SH_2.out 1).trans rfl, (blk_cell SH_2.out 2).trans rfl, (blk_cell SH_2.out 3).trans rfl, (blk_cell TH_2.out 0).trans rfl, (blk_cell TH_2.out 1).trans rfl, (blk_cell TH_2.out 2).trans rfl, (blk_cell TH_2.out 3).trans rfl⟩ (fun hHeld => ?_)⟩
      clear hK K
      refine norm_ (a' := ?_) ?_ ?_
      rotate_left
      ·show Act.put _ (some 133) _ = _
       simp only [Act.put, List.setIfInBounds_toArray, List.set_cons_zero, List.set_cons_succ]
       rfl
      refine pure_ (i := 4) (N := some 134) (v := ?_) (a' := ?_) #[true, true, true, true, true, false, false, false, false, false, false] rfl rfl (by kernel_rfl) (fun _ _ _ h => h) (Or.inl ⟨by rfl, ?_⟩) ?_ ?_
      rotate_left
      ·intro w'
       go_simp
       with_reducible rfl
      rotate_left
      ·simp only [Act.put, List.setIfInBounds_toArray, List.set_cons_zero, List.set_cons_succ]
       rfl
      refine take_ (i := 5) (N := some 135) (v := ?_) (a' := ?_) #[true, true, true, true, true, true, false, false, false, false, false] rfl rfl (by kernel_rfl) (fun _ _ _ h => h) (Or.inl ⟨by rfl, ?_⟩) (by first | exact hHeld | assumption) ?_ ?_
      rotate_left
      ·rintro w' ⟨s0, s1, s2, s3, s4, s5, s6, s7, s8, s9, s10, s11⟩
       go_simp
       with_reducible rfl
      rotate_left
      ·simp only [Act.put, List.setIfInBounds_toArray, List.set_cons_zero, List.set_cons_succ]
       rfl
      refine take_ (i := 7) (N := some 137) (v := ?_) (a' := ?_) #[true, true, true, true, true, true, false, true, false, false, false] rfl rfl (by kernel_rfl) (fun _ _ _ h => h) (Or.inl ⟨by rfl, ?_⟩) (by first | exact hHeld | assumption) ?_ ?_
      rotate_left
      ·rintro w' ⟨s0, s1, s2, s3, s4, s5, s6, s7, s8, s9, s10, s11⟩
       go_simp
       with_reducible rfl
      rotate_left
      ·simp only [Act.put, List.setIfInBounds_toArray, List.set_cons_zero, List.set_cons_succ]
       rfl
      refine one_ (i := 6) (N := some 136) #[true, true, true, true, true, true, true, true, false, false, false] rfl rfl (by kernel_rfl) (by decide) (fun K hK => ?_)
      refine call_ 13 #[.agg #[.int .i64 u.f0, .int .i64 u.f1, .slice Au u.f2.length cu, .string u.f3]] (by rfl) rfl (by first | (go_simp; done) | (go_simp; rfl)) ?_
      refine (ref_calls u.f0 u.f1 Au u.f2.length cu u.f3 wh2).mono ?_
      rintro e wh3 ⟨rfl, hbh2⟩
      have UH_3 := Aside0.mk (blk_below UH_2.out hbh2)
      have SH_3 := Aside0.mk (blk_below SH_2.out hbh2)
      have TH_3 := Aside0.mk (blk_below TH_2.out hbh2)
      have BH_3 := Aside0.mk (below_step BH_2.out hbh2)
      have EH_3 := Aside0.mk (EH_2.out.trans (hbh2.mono EH_2.out.size))
      have DH_3 := Aside0.mk (DH_2.out.trans (hbh2.mono DH_2.out.size))
      clear hbh2
      refine ⟨_, rfl, hK.out _ _ ⟨(blk_cell UH_3.out 0).trans rfl, (blk_cell UH_3.out 1).trans rfl, (blk_cell UH_3.out 2).trans rfl, (blk_cell UH_3.out 3).trans rfl, (blk_cell SH_3.out 0).trans rfl, (blk_cell SH_3.out 1).trans rfl, (blk_cell SH_3.out 2).trans rfl, (blk_cell SH_3.out 3).trans rfl, (blk_cell TH_3.out 0).trans rfl, (blk_cell TH_3.out 1).trans rfl, (blk_cell TH_3.out 2).trans rfl, (blk_cell TH_3.out 3).trans rfl⟩ (fun hHeld => ?_)⟩
      clear hK K
      refine norm_ (a' := ?_) ?_ ?_
      rotate_left
      ·show Act.put _ (some 136) _ = _
       simp only [Act.put, List.setIfInBounds_toArray, List.set_cons_zero, List.set_cons_succ]
       rfl
      refine one_ (i := 8) (N := some 138) #[true, true, true, true, true, true, true, true, true, false, false] rfl rfl (by kernel_rfl) (by decide) (fun K hK => ?_)
      refine call_ 19 #[.agg #[.int .i64 u.f0, .int .i64 u.f1, .slice Au u.f2.length cu, .string u.f3], .agg #[.int .i64 t.f0, .int .i64 t.f1, .slice At t.f2.length ct, .string t.f3]] (by rfl) rfl (by first | (go_simp; done) | (go_simp; rfl)) ?_
      refine (stowageref07_Same.calls k5 u.f0 u.f1 Au cu u.f2 u.f3 t.f0 t.f1 At ct t.f2 t.f3 true wh3 (Kd.C_below CU.out DH_3.out) LCU.out (Kd.C_below CT.out EH_3.out) LCT.out HTM.out).mono ?_
      rintro e wh4 ⟨rfl, hbh3⟩
      have UH_4 := Aside0.mk (blk_below UH_3.out hbh3)
      have SH_4 := Aside0.mk (blk_below SH_3.out hbh3)
      have TH_4 := Aside0.mk (blk_below TH_3.out hbh3)
      have BH_4 := Aside0.mk (below_step BH_3.out hbh3)
      have EH_4 := Aside0.mk (EH_3.out.trans (hbh3.mono EH_3.out.size))
      have DH_4 := Aside0.mk (DH_3.out.trans (hbh3.mono DH_3.out.size))
      clear hbh3
      refine ⟨_, rfl, hK.out _ _ ⟨(blk_cell UH_4.out 0).trans rfl, (blk_cell UH_4.out 1).trans rfl, (blk_cell UH_4.out 2).trans rfl, (blk_cell UH_4.out 3).trans rfl, (blk_cell SH_4.out 0).trans rfl, (blk_cell SH_4.out 1).trans rfl, (blk_cell SH_4.out 2).trans rfl, (blk_cell SH_4.out 3).trans rfl, (blk_cell TH_4.out 0).trans rfl, (blk_cell TH_4.out 1).trans rfl, (blk_cell TH_4.out 2).trans rfl, (blk_cell TH_4.out 3).trans rfl⟩ (fun hHeld => ?_)⟩
      clear hK K
      refine norm_ (a' := ?_) ?_ ?_
      rotate_left
      ·show Act.put _ (some 138) _ = _
       simp only [Act.put, List.setIfInBounds_toArray, List.set_cons_zero, List.set_cons_succ]
       rfl
      refine pure_ (i := 9) (N := some 139) (v := ?_) (a' := ?_) #[true, true, true, true, true, true, true, true, true, true, false] rfl rfl (by kernel_rfl) (fun _ _ _ h => h) (Or.inl ⟨by rfl, ?_⟩) ?_ ?_
      rotate_left
      ·intro w'
       go_simp
       with_reducible rfl
      rotate_left
      ·simp only [Act.put, List.setIfInBounds_toArray, List.set_cons_zero, List.set_cons_succ]
       rfl
      refine pure_ (i := 10) (N := some 4) (v := ?_) (a' := ?_) #[true, true, true, true, true, true, true, true, true, true, true] rfl rfl (by kernel_rfl) (fun _ _ _ h => h) (Or.inl ⟨by rfl, ?_⟩) ?_ ?_
      rotate_left
      ·intro w'
       go_simp
       with_reducible rfl
      rotate_left
      ·simp only [Act.put, List.setIfInBounds_toArray, List.set_cons_zero, List.set_cons_succ]
       rfl
      refine done_ (by kernel_rfl) ?_
      clear hHeld
      go_wp2
      go_ret
      exact ⟨rfl, BH_4.out⟩
theorem w_ShotFalls (W : World) (A0 : Option Addr) (c0 : Nat) (a0 : (List S24)) (l0 : a0.length ≤ c0) (C0 : Kd.C k24 W A0 a0.length a0) (g0 : (a0.length * 56 ≤ 140737488351232 ∧ ∀ y0 ∈ a0, ((Lit.int .i64 y0.f0).wf = true ∧ ((Lit.int .i64 y0.f1).wf = true ∧ ((y0.f2.length * 8 ≤ 140737488351232 ∧ ∀ y1 ∈ y0.f2, (Lit.int .i64 y1).wf = true) ∧ y0.f3.size ≤ 140737488351232))))) (cs1 : Array Value) (a1 : (S51 × S51)) (K1 : (Kd.pair k51 k51).K W a1 cs1.toList) (g1 : (((Lit.int .i64 a1.1.f0).wf = true ∧ ((Lit.int .i64 a1.1.f1).wf = true ∧ (Lit.int .i64 a1.1.f2).wf = true)) ∧ ((Lit.int .i64 a1.2.f0).wf = true ∧ ((Lit.int .i64 a1.2.f1).wf = true ∧ (Lit.int .i64 a1.2.f2).wf = true)))) :
  Calls Try.prog 6 #[.slice A0 a0.length c0, .agg cs1] W fun e w' => e = .returned (.bool true) ∧ Below W.heap.size W w' := by
 rw [two_falls K1]
 exact walkShotFalls W A0 c0 a0 C0 (fun s hs => by have := (g0.2 s hs).2.2.1.1; omega) _ _ _ _ _ _
end Go.Proofs.Ythjfofgcikfepaa.Q
