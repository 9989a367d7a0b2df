/- WiresCuts answers true at every input: nothing goes over a way that is cut, neither way, until it is mended; other ways stay. -/
import Derived.Test.YtodkackgdchocaaTr
namespace Go.Proofs.Ytodkackgdchocaa.Q
open Go.RowKit Go.Proofs.YtodkackgdchocaaW.PrintWords Go.Proofs.YtodkackgdchocaaW.PrintLast Go.Proofs.YtodkackgdchocaaW.PrintMore
set_option linter.unusedVariables false
set_option linter.unusedSimpArgs false
set_option maxHeartbeats 8000000
set_option maxRecDepth 10000
theorem cutAB_isCut (n : NetS) (h : n.cut.length = 49) (a b i j : Int) (ha : 0 ≤ a ∧ a < 7) (hb : 0 ≤ b ∧ b < 7) (hi : 0 ≤ i ∧ i < 7) (hj : 0 ≤ j ∧ j < 7) :
    (n.cutAB a b).isCut i j = (n.isCut i j || (decide (i = a ∧ j = b) || decide (i = b ∧ j = a))) := by
  unfold NetS.isCut NetS.cutAB
  simp only [List.getD_eq_getElem?_getD, List.getElem?_set, List.length_set, h]
  by_cases h1 : i = b ∧ j = a
  · obtain ⟨rfl, rfl⟩ := h1
    rw [if_pos rfl, if_pos (by omega)]
    simp
  · rw [if_neg (by omega)]
    by_cases h2 : i = a ∧ j = b
    · obtain ⟨rfl, rfl⟩ := h2
      rw [if_pos rfl, if_pos (by omega)]
      simp
    · rw [if_neg (by omega)]
      have e1 : decide (i = a ∧ j = b) = false := decide_eq_false h2
      have e2 : decide (i = b ∧ j = a) = false := decide_eq_false h1
      rw [e1, e2, Bool.or_self, Bool.or_false]
/-- A send over a way that is not cut. -/
theorem send_go (n : NetS) (p : S60) (hp : 0 ≤ p.f0 ∧ p.f0 < 7 ∧ 0 ≤ p.f1 ∧ p.f1 < 7 ∧ p.f0 ≠ p.f1) (hc : n.isCut p.f0 p.f1 = false) (hl : n.l.length < 4096) : n.send p = ({ n with l := n.l ++ [p], a := wrap64 (n.a + 1) }, true) := by
  unfold NetS.send
  rw [if_pos hp, if_neg (by rw [hc]; simp; omega)]
/-- A send over a way that is cut. -/
theorem send_cut (n : NetS) (p : S60) (hp : 0 ≤ p.f0 ∧ p.f0 < 7 ∧ 0 ≤ p.f1 ∧ p.f1 < 7 ∧ p.f0 ≠ p.f1) (hc : n.isCut p.f0 p.f1 = true) : n.send p = ({ n with a := wrap64 (n.a + 1), c := wrap64 (n.c + 1) }, false) := by
  unfold NetS.send
  rw [if_pos hp, if_pos (.inl hc)]
theorem stowagelaw08_WiresCuts.calls (a b c : Int) (w : World) :
    Calls Try.prog 5 #[.int .i64 a, .int .i64 b, .int .i64 c] w fun e w' => e = .returned (.bool true) ∧ Below w.heap.size w w' := by
  have hx := md7 a
  have hy := other7 _ _ hx (md6 b)
  have hz := md7 c
  have HXY := Aside0.mk (And.intro hx (And.intro hy hz))
  clear hx hy hz
  go_enter Try.func5, Try.ntmps5
  go_wp2_with (fail)
  generalize (wrap64 (wrap64 ((wrap64 (a.tmod 7 + 7)).tmod 7 + 1) + (wrap64 (b.tmod 6 + 6)).tmod 6)).tmod 7 = y at HXY ⊢
  generalize (wrap64 (a.tmod 7 + 7)).tmod 7 = x at HXY ⊢
  generalize (wrap64 (c.tmod 7 + 7)).tmod 7 = z at HXY ⊢
  have HR : Aside0 ((0 ≤ x ∧ x < 7) ∧ (0 ≤ y ∧ y < 7) ∧ (0 ≤ z ∧ z < 7) ∧ x ≠ y ∧ y ≠ x) := ⟨HXY.out.1, ⟨HXY.out.2.1.1, HXY.out.2.1.2.1⟩, HXY.out.2.2, Ne.symm HXY.out.2.1.2.2, HXY.out.2.1.2.2⟩
  refine (T_New (w0 := w) (bs := []) (Below.refl _ _) (fun q hq => by cases hq)).mono ?_
  rintro e w1 ⟨g, rfl, hT, hg, hb⟩
  have T1 := Aside0.mk hT
  clear hT hg hb HXY
  go_wp2_with (fail)
  refine (stowagelaw08_awake.calls w1).mono ?_
  rintro e w2 ⟨rfl, hb⟩
  have T2 := Aside0.mk (T1.out.below hb)
  clear hb T1
  go_wp2_with (fail)
  refine (T_Send ⟨x, y, ⟨#[]⟩⟩ T2.out).mono ?_
  rw [send_ok net0 rfl _ ⟨HR.out.1.1, HR.out.1.2, HR.out.2.1.1, HR.out.2.1.2, HR.out.2.2.2.1⟩ (by simp [net0])]
  rintro e w3 ⟨rfl, hT, _⟩
  have T3 := Aside0.mk hT
  clear hT T2
  go_wp2_with (fail)
  refine (T_Send ⟨y, x, ⟨#[]⟩⟩ T3.out).mono ?_
  rw [send_ok _ rfl _ ⟨HR.out.2.1.1, HR.out.2.1.2, HR.out.1.1, HR.out.1.2, HR.out.2.2.2.2⟩ (by simp [net0])]
  rintro e w4 ⟨rfl, hT, _⟩
  have T4 : Aside0 (Tr w w4 g ⟨[⟨x, y, ⟨#[]⟩⟩, ⟨y, x, ⟨#[]⟩⟩], List.replicate 49 false, wrap64 (wrap64 (0 + 1) + 1), 0, 0⟩ []) := ⟨hT⟩
  clear hT T3
  generalize wrap64 (wrap64 (0 + 1) + 1) = ca at T4
  by_cases hother : z ≠ x ∧ z ≠ y
  · have HZ : Aside0 (z ≠ x ∧ z ≠ y ∧ x ≠ z ∧ y ≠ z) := ⟨hother.1, hother.2, Ne.symm hother.1, Ne.symm hother.2⟩
    have b1 : (z != x) = true := bne_iff_ne.mpr hother.1
    have b2 : (z != y) = true := bne_iff_ne.mpr hother.2
    clear hother
    go_wp2_with (fail)
    refine (T_Send ⟨x, z, ⟨#[]⟩⟩ T4.out).mono ?_
    rw [send_ok _ rfl _ ⟨HR.out.1.1, HR.out.1.2, HR.out.2.2.1.1, HR.out.2.2.1.2, HZ.out.2.2.1⟩ (by simp)]
    rintro e w5 ⟨rfl, hT, _⟩
    have T5 := Aside0.mk hT
    clear hT T4
    go_wp2_with (fail)
    refine (T_Send ⟨z, y, ⟨#[]⟩⟩ T5.out).mono ?_
    rw [send_ok _ rfl _ ⟨HR.out.2.2.1.1, HR.out.2.2.1.2, HR.out.2.1.1, HR.out.2.1.2, HZ.out.2.1⟩ (by simp)]
    rintro e w6 ⟨rfl, hT, _⟩
    have T6 : Aside0 (Tr w w6 g ⟨[⟨x, y, ⟨#[]⟩⟩, ⟨y, x, ⟨#[]⟩⟩, ⟨x, z, ⟨#[]⟩⟩, ⟨z, y, ⟨#[]⟩⟩], List.replicate 49 false, wrap64 (wrap64 (ca + 1) + 1), 0, 0⟩ []) := ⟨hT⟩
    clear hT T5
    generalize wrap64 (wrap64 (ca + 1) + 1) = cb at T6
    go_wp2_with (fail)
    obtain ⟨n6, hn6⟩ : ∃ n6 : NetS, n6 = ⟨[⟨x, y, ⟨#[]⟩⟩, ⟨y, x, ⟨#[]⟩⟩, ⟨x, z, ⟨#[]⟩⟩, ⟨z, y, ⟨#[]⟩⟩], List.replicate 49 false, cb, 0, 0⟩ := ⟨_, rfl⟩
    rw [← hn6] at T6
    have hu : ∀ i j, n6.isCut i j = false := uncut n6 (by rw [hn6])
    have hK : Aside0 (∀ i j, 0 ≤ i ∧ i < 7 → 0 ≤ j ∧ j < 7 → (n6.cutAB y x).isCut i j = (decide (i = y ∧ j = x) || decide (i = x ∧ j = y))) := ⟨fun i j hi hj => by
      rw [cutAB_isCut n6 T6.out.cl y x i j HR.out.2.1 HR.out.1 hi hj, hu, Bool.false_or]⟩
    have k1 : (n6.cutAB y x).isCut x y = true := by rw [hK.out x y HR.out.1 HR.out.2.1]; simp
    have k2 : (n6.cutAB y x).isCut y x = true := by rw [hK.out y x HR.out.2.1 HR.out.1]; simp
    have k3 : (n6.cutAB y x).isCut x z = false := by rw [hK.out x z HR.out.1 HR.out.2.2.1]; simp [HZ.out.1, HZ.out.2.1, HZ.out.2.2.1, HZ.out.2.2.2, HR.out.2.2.2.1]
    have k4 : (n6.cutAB y x).isCut z y = false := by rw [hK.out z y HR.out.2.2.1 HR.out.2.1]; simp [HZ.out.1, HZ.out.2.1, HZ.out.2.2.1, HZ.out.2.2.2, HR.out.2.2.2.2]
    have k5 : (n6.cutAB y x).isCut y z = false := by rw [hK.out y z HR.out.2.1 HR.out.2.2.1]; simp [HZ.out.1, HZ.out.2.1, HZ.out.2.2.1, HZ.out.2.2.2, HR.out.2.2.2.2]
    have hl6 : n6.l = [⟨x, y, ⟨#[]⟩⟩, ⟨y, x, ⟨#[]⟩⟩, ⟨x, z, ⟨#[]⟩⟩, ⟨z, y, ⟨#[]⟩⟩] := by rw [hn6]
    have hf : (n6.l.filter fun p => !(n6.cutAB y x).isCut p.f0 p.f1) = [⟨x, z, ⟨#[]⟩⟩, ⟨z, y, ⟨#[]⟩⟩] := by
      rw [hl6]
      simp [List.filter_cons, k1, k2, k3, k4]
    have e7 : n6.cutN y x = ((n6.cutAB y x).lose (fun p => (n6.cutAB y x).isCut p.f0 p.f1), 2) := by
      unfold NetS.cutN
      rw [if_pos ⟨HR.out.2.1.1, HR.out.2.1.2, HR.out.1.1, HR.out.1.2, HR.out.2.2.2.2⟩, hf, hl6]
      rfl
    obtain ⟨n7, hn7⟩ : ∃ n7, n7 = (n6.cutAB y x).lose (fun p => (n6.cutAB y x).isCut p.f0 p.f1) := ⟨_, rfl⟩
    have h7 : Aside0 (n7.l = [⟨x, z, ⟨#[]⟩⟩, ⟨z, y, ⟨#[]⟩⟩] ∧ n7.isCut x y = true ∧ n7.isCut y x = true ∧ n7.isCut y z = false) := ⟨by rw [hn7]; exact ⟨hf, k1, k2, k5⟩⟩
    refine (T_Cut y x T6.out).mono ?_
    rw [e7, ← hn7]
    clear e7 hn7 hf hl6 k1 k2 k3 k4 k5 hK hu hn6
    rintro e w7 ⟨rfl, hT, _⟩
    have T7 := Aside0.mk hT
    clear hT T6
    go_wp2_with (fail)
    refine (T_Send ⟨x, y, ⟨#[]⟩⟩ T7.out).mono ?_
    rw [send_cut n7 _ ⟨HR.out.1.1, HR.out.1.2, HR.out.2.1.1, HR.out.2.1.2, HR.out.2.2.2.1⟩ h7.out.2.1]
    rintro e w8 ⟨rfl, hT, _⟩
    have T8 := Aside0.mk hT
    clear hT T7
    go_wp2_with (fail)
    refine (T_Send ⟨y, x, ⟨#[]⟩⟩ T8.out).mono ?_
    rw [send_cut _ _ ⟨HR.out.2.1.1, HR.out.2.1.2, HR.out.1.1, HR.out.1.2, HR.out.2.2.2.2⟩ h7.out.2.2.1]
    rintro e w9 ⟨rfl, hT, _⟩
    have T9 := Aside0.mk hT
    clear hT T8
    go_wp2_with (fail)
    refine (T_Cut x x T9.out).mono ?_
    have ec : ∀ (n : NetS), n.cutN x x = (n, 0) := fun n => by
      unfold NetS.cutN
      rw [if_neg (by simp)]
    rw [ec]
    rintro e w10 ⟨rfl, hT, _⟩
    have T10 := Aside0.mk hT
    clear hT T9 ec
    go_wp2_with (fail)
    refine (T_Cut x 7 T10.out).mono ?_
    have ec : ∀ (n : NetS), n.cutN x 7 = (n, 0) := fun n => by
      unfold NetS.cutN
      rw [if_neg (by simp)]
    rw [ec]
    rintro e w11 ⟨rfl, hT, _⟩
    obtain ⟨n11, hn11⟩ : ∃ n11 : NetS, n11 = { n7 with a := wrap64 (wrap64 (n7.a + 1) + 1), c := wrap64 (wrap64 (n7.c + 1) + 1) } := ⟨_, rfl⟩
    have T11 : Aside0 (Tr w w11 g n11 []) := ⟨by rw [hn11]; exact hT⟩
    have h11 : Aside0 (n11.l = [⟨x, z, ⟨#[]⟩⟩, ⟨z, y, ⟨#[]⟩⟩] ∧ n11.isCut y z = false) := ⟨by rw [hn11]; exact ⟨h7.out.1, h7.out.2.2.2⟩⟩
    clear hT T10 ec hn11
    go_wp2_with (fail)
    refine (T_Len T11.out).mono ?_
    rw [h11.out.1]
    rintro e w12 ⟨rfl, rfl⟩
    go_wp2_with (fail)
    refine (T_Send ⟨y, z, ⟨#[]⟩⟩ T11.out).mono ?_
    rw [send_go n11 _ ⟨HR.out.2.1.1, HR.out.2.1.2, HR.out.2.2.1.1, HR.out.2.2.1.2, Ne.symm HZ.out.2.1⟩ h11.out.2 (by rw [h11.out.1]; simp)]
    rintro e w13 ⟨rfl, hT, _⟩
    have T13 := Aside0.mk hT
    have hl13 : Aside0 ((n11.l ++ [(⟨y, z, ⟨#[]⟩⟩ : S60)]).length = 3) := ⟨by rw [h11.out.1]; rfl⟩
    go_wp2_with (fail)
    refine (T_Heal T13.out).mono ?_
    rintro e w14 ⟨rfl, hT, _⟩
    have T14 := Aside0.mk hT
    clear hT T13
    go_wp2_with (fail)
    refine (T_Send ⟨x, y, ⟨#[]⟩⟩ T14.out).mono ?_
    rw [send_ok _ rfl _ ⟨HR.out.1.1, HR.out.1.2, HR.out.2.1.1, HR.out.2.1.2, HR.out.2.2.2.1⟩ (by exact Nat.lt_of_le_of_lt (Nat.le_of_eq hl13.out) (by decide))]
    rintro e w15 ⟨rfl, hT, _⟩
    have T15 := Aside0.mk hT
    clear hT T14
    go_wp2_with (fail)
    refine (T_Send ⟨y, x, ⟨#[]⟩⟩ T15.out).mono ?_
    rw [send_ok _ rfl _ ⟨HR.out.2.1.1, HR.out.2.1.2, HR.out.1.1, HR.out.1.2, HR.out.2.2.2.2⟩ (by have := hl13.out; simp only [List.length_append, List.length_singleton] at this ⊢; omega)]
    rintro e w16 ⟨rfl, hT, _⟩
    have T16 := Aside0.mk hT
    clear hT T15
    go_wp2
    go_ret
    exact ⟨rfl, T16.out.1⟩
  · have hor : z = x ∨ (z ≠ x ∧ z = y) := by omega
    clear hother
    rcases hor with hzx | ⟨hzx, hzy⟩
    · have T6 := T4
      obtain ⟨cb, hcb⟩ : ∃ cb, cb = ca := ⟨_, rfl⟩
      rw [← hcb] at T6
      clear T4 hcb
      have b1 : (z != x) = false := by rw [hzx]; simp
      clear hzx
      go_wp2_with (fail)
      obtain ⟨n6, hn6⟩ : ∃ n6 : NetS, n6 = ⟨[⟨x, y, ⟨#[]⟩⟩, ⟨y, x, ⟨#[]⟩⟩], List.replicate 49 false, cb, 0, 0⟩ := ⟨_, rfl⟩
      rw [← hn6] at T6
      have hu : ∀ i j, n6.isCut i j = false := uncut n6 (by rw [hn6])
      have hK : Aside0 (∀ i j, 0 ≤ i ∧ i < 7 → 0 ≤ j ∧ j < 7 → (n6.cutAB y x).isCut i j = (decide (i = y ∧ j = x) || decide (i = x ∧ j = y))) := ⟨fun i j hi hj => by
        rw [cutAB_isCut n6 T6.out.cl y x i j HR.out.2.1 HR.out.1 hi hj, hu, Bool.false_or]⟩
      have k1 : (n6.cutAB y x).isCut x y = true := by rw [hK.out x y HR.out.1 HR.out.2.1]; simp
      have k2 : (n6.cutAB y x).isCut y x = true := by rw [hK.out y x HR.out.2.1 HR.out.1]; simp
      have hl6 : n6.l = [⟨x, y, ⟨#[]⟩⟩, ⟨y, x, ⟨#[]⟩⟩] := by rw [hn6]
      have hf : (n6.l.filter fun p => !(n6.cutAB y x).isCut p.f0 p.f1) = [] := by
        rw [hl6]
        simp [List.filter_cons, k1, k2]
      have e7 : n6.cutN y x = ((n6.cutAB y x).lose (fun p => (n6.cutAB y x).isCut p.f0 p.f1), 2) := by
        unfold NetS.cutN
        rw [if_pos ⟨HR.out.2.1.1, HR.out.2.1.2, HR.out.1.1, HR.out.1.2, HR.out.2.2.2.2⟩, hf, hl6]
        rfl
      obtain ⟨n7, hn7⟩ : ∃ n7, n7 = (n6.cutAB y x).lose (fun p => (n6.cutAB y x).isCut p.f0 p.f1) := ⟨_, rfl⟩
      have h7 : Aside0 (n7.l = [] ∧ n7.isCut x y = true ∧ n7.isCut y x = true) := ⟨by rw [hn7]; exact ⟨hf, k1, k2⟩⟩
      refine (T_Cut y x T6.out).mono ?_
      rw [e7, ← hn7]
      clear e7 hn7 hf hl6 k1 k2  hK hu hn6
      rintro e w7 ⟨rfl, hT, _⟩
      have T7 := Aside0.mk hT
      clear hT T6
      go_wp2_with (fail)
      refine (T_Send ⟨x, y, ⟨#[]⟩⟩ T7.out).mono ?_
      rw [send_cut n7 _ ⟨HR.out.1.1, HR.out.1.2, HR.out.2.1.1, HR.out.2.1.2, HR.out.2.2.2.1⟩ h7.out.2.1]
      rintro e w8 ⟨rfl, hT, _⟩
      have T8 := Aside0.mk hT
      clear hT T7
      go_wp2_with (fail)
      refine (T_Send ⟨y, x, ⟨#[]⟩⟩ T8.out).mono ?_
      rw [send_cut _ _ ⟨HR.out.2.1.1, HR.out.2.1.2, HR.out.1.1, HR.out.1.2, HR.out.2.2.2.2⟩ h7.out.2.2]
      rintro e w9 ⟨rfl, hT, _⟩
      have T9 := Aside0.mk hT
      clear hT T8
      go_wp2_with (fail)
      refine (T_Cut x x T9.out).mono ?_
      have ec : ∀ (n : NetS), n.cutN x x = (n, 0) := fun n => by
        unfold NetS.cutN
        rw [if_neg (by simp)]
      rw [ec]
      rintro e w10 ⟨rfl, hT, _⟩
      have T10 := Aside0.mk hT
      clear hT T9 ec
      go_wp2_with (fail)
      refine (T_Cut x 7 T10.out).mono ?_
      have ec : ∀ (n : NetS), n.cutN x 7 = (n, 0) := fun n => by
        unfold NetS.cutN
        rw [if_neg (by simp)]
      rw [ec]
      rintro e w11 ⟨rfl, hT, _⟩
      obtain ⟨n11, hn11⟩ : ∃ n11 : NetS, n11 = { n7 with a := wrap64 (wrap64 (n7.a + 1) + 1), c := wrap64 (wrap64 (n7.c + 1) + 1) } := ⟨_, rfl⟩
      have T11 : Aside0 (Tr w w11 g n11 []) := ⟨by rw [hn11]; exact hT⟩
      have h11 : Aside0 (n11.l = []) := ⟨by rw [hn11]; exact h7.out.1⟩
      clear hT T10 ec hn11
      go_wp2_with (fail)
      refine (T_Len T11.out).mono ?_
      rw [h11.out]
      rintro e w12 ⟨rfl, rfl⟩
      have T13 := T11
      have hl13 : Aside0 (n11.l.length = 0) := ⟨by rw [h11.out]; rfl⟩
      go_wp2_with (fail)
      refine (T_Heal T13.out).mono ?_
      rintro e w14 ⟨rfl, hT, _⟩
      have T14 := Aside0.mk hT
      clear hT T13
      go_wp2_with (fail)
      refine (T_Send ⟨x, y, ⟨#[]⟩⟩ T14.out).mono ?_
      rw [send_ok _ rfl _ ⟨HR.out.1.1, HR.out.1.2, HR.out.2.1.1, HR.out.2.1.2, HR.out.2.2.2.1⟩ (by exact Nat.lt_of_le_of_lt (Nat.le_of_eq hl13.out) (by decide))]
      rintro e w15 ⟨rfl, hT, _⟩
      have T15 := Aside0.mk hT
      clear hT T14
      go_wp2_with (fail)
      refine (T_Send ⟨y, x, ⟨#[]⟩⟩ T15.out).mono ?_
      rw [send_ok _ rfl _ ⟨HR.out.2.1.1, HR.out.2.1.2, HR.out.1.1, HR.out.1.2, HR.out.2.2.2.2⟩ (by have := hl13.out; simp only [List.length_append, List.length_singleton] at this ⊢; omega)]
      rintro e w16 ⟨rfl, hT, _⟩
      have T16 := Aside0.mk hT
      clear hT T15
      go_wp2
      go_ret
      exact ⟨rfl, T16.out.1⟩
    · have T6 := T4
      obtain ⟨cb, hcb⟩ : ∃ cb, cb = ca := ⟨_, rfl⟩
      rw [← hcb] at T6
      clear T4 hcb
      have b1 : (z != x) = true := bne_iff_ne.mpr hzx
      have b2 : (z != y) = false := by rw [hzy]; simp
      clear hzx hzy
      go_wp2_with (fail)
      obtain ⟨n6, hn6⟩ : ∃ n6 : NetS, n6 = ⟨[⟨x, y, ⟨#[]⟩⟩, ⟨y, x, ⟨#[]⟩⟩], List.replicate 49 false, cb, 0, 0⟩ := ⟨_, rfl⟩
      rw [← hn6] at T6
      have hu : ∀ i j, n6.isCut i j = false := uncut n6 (by rw [hn6])
      have hK : Aside0 (∀ i j, 0 ≤ i ∧ i < 7 → 0 ≤ j ∧ j < 7 → (n6.cutAB y x).isCut i j = (decide (i = y ∧ j = x) || decide (i = x ∧ j = y))) := ⟨fun i j hi hj => by
        rw [cutAB_isCut n6 T6.out.cl y x i j HR.out.2.1 HR.out.1 hi hj, hu, Bool.false_or]⟩
      have k1 : (n6.cutAB y x).isCut x y = true := by rw [hK.out x y HR.out.1 HR.out.2.1]; simp
      have k2 : (n6.cutAB y x).isCut y x = true := by rw [hK.out y x HR.out.2.1 HR.out.1]; simp
      have hl6 : n6.l = [⟨x, y, ⟨#[]⟩⟩, ⟨y, x, ⟨#[]⟩⟩] := by rw [hn6]
      have hf : (n6.l.filter fun p => !(n6.cutAB y x).isCut p.f0 p.f1) = [] := by
        rw [hl6]
        simp [List.filter_cons, k1, k2]
      have e7 : n6.cutN y x = ((n6.cutAB y x).lose (fun p => (n6.cutAB y x).isCut p.f0 p.f1), 2) := by
        unfold NetS.cutN
        rw [if_pos ⟨HR.out.2.1.1, HR.out.2.1.2, HR.out.1.1, HR.out.1.2, HR.out.2.2.2.2⟩, hf, hl6]
        rfl
      obtain ⟨n7, hn7⟩ : ∃ n7, n7 = (n6.cutAB y x).lose (fun p => (n6.cutAB y x).isCut p.f0 p.f1) := ⟨_, rfl⟩
      have h7 : Aside0 (n7.l = [] ∧ n7.isCut x y = true ∧ n7.isCut y x = true) := ⟨by rw [hn7]; exact ⟨hf, k1, k2⟩⟩
      refine (T_Cut y x T6.out).mono ?_
      rw [e7, ← hn7]
      clear e7 hn7 hf hl6 k1 k2  hK hu hn6
      rintro e w7 ⟨rfl, hT, _⟩
      have T7 := Aside0.mk hT
      clear hT T6
      go_wp2_with (fail)
      refine (T_Send ⟨x, y, ⟨#[]⟩⟩ T7.out).mono ?_
      rw [send_cut n7 _ ⟨HR.out.1.1, HR.out.1.2, HR.out.2.1.1, HR.out.2.1.2, HR.out.2.2.2.1⟩ h7.out.2.1]
      rintro e w8 ⟨rfl, hT, _⟩
      have T8 := Aside0.mk hT
      clear hT T7
      go_wp2_with (fail)
      refine (T_Send ⟨y, x, ⟨#[]⟩⟩ T8.out).mono ?_
      rw [send_cut _ _ ⟨HR.out.2.1.1, HR.out.2.1.2, HR.out.1.1, HR.out.1.2, HR.out.2.2.2.2⟩ h7.out.2.2]
      rintro e w9 ⟨rfl, hT, _⟩
      have T9 := Aside0.mk hT
      clear hT T8
      go_wp2_with (fail)
      refine (T_Cut x x T9.out).mono ?_
      have ec : ∀ (n : NetS), n.cutN x x = (n, 0) := fun n => by
        unfold NetS.cutN
        rw [if_neg (by simp)]
      rw [ec]
      rintro e w10 ⟨rfl, hT, _⟩
      have T10 := Aside0.mk hT
      clear hT T9 ec
      go_wp2_with (fail)
      refine (T_Cut x 7 T10.out).mono ?_
      have ec : ∀ (n : NetS), n.cutN x 7 = (n, 0) := fun n => by
        unfold NetS.cutN
        rw [if_neg (by simp)]
      rw [ec]
      rintro e w11 ⟨rfl, hT, _⟩
      obtain ⟨n11, hn11⟩ : ∃ n11 : NetS, n11 = { n7 with a := wrap64 (wrap64 (n7.a + 1) + 1), c := wrap64 (wrap64 (n7.c + 1) + 1) } := ⟨_, rfl⟩
      have T11 : Aside0 (Tr w w11 g n11 []) := ⟨by rw [hn11]; exact hT⟩
      have h11 : Aside0 (n11.l = []) := ⟨by rw [hn11]; exact h7.out.1⟩
      clear hT T10 ec hn11
      go_wp2_with (fail)
      refine (T_Len T11.out).mono ?_
      rw [h11.out]
      rintro e w12 ⟨rfl, rfl⟩
      have T13 := T11
      have hl13 : Aside0 (n11.l.length = 0) := ⟨by rw [h11.out]; rfl⟩
      go_wp2_with (fail)
      refine (T_Heal T13.out).mono ?_
      rintro e w14 ⟨rfl, hT, _⟩
      have T14 := Aside0.mk hT
      clear hT T13
      go_wp2_with (fail)
      refine (T_Send ⟨x, y, ⟨#[]⟩⟩ T14.out).mono ?_
      rw [send_ok _ rfl _ ⟨HR.out.1.1, HR.out.1.2, HR.out.2.1.1, HR.out.2.1.2, HR.out.2.2.2.1⟩ (by exact Nat.lt_of_le_of_lt (Nat.le_of_eq hl13.out) (by decide))]
      rintro e w15 ⟨rfl, hT, _⟩
      have T15 := Aside0.mk hT
      clear hT T14
      go_wp2_with (fail)
      refine (T_Send ⟨y, x, ⟨#[]⟩⟩ T15.out).mono ?_
      rw [send_ok _ rfl _ ⟨HR.out.2.1.1, HR.out.2.1.2, HR.out.1.1, HR.out.1.2, HR.out.2.2.2.2⟩ (by have := hl13.out; simp only [List.length_append, List.length_singleton] at this ⊢; omega)]
      rintro e w16 ⟨rfl, hT, _⟩
      have T16 := Aside0.mk hT
      clear hT T15
      go_wp2
      go_ret
      exact ⟨rfl, T16.out.1⟩
end Go.Proofs.Ytodkackgdchocaa.Q
namespace Go.Proofs.Ytodkackgdchocaa.Walks
open Go.RowKit Go.Proofs.Ytodkackgdchocaa.Q Go.Proofs.YtodkackgdchocaaW.PrintWords Go.Proofs.YtodkackgdchocaaW.PrintLast Go.Proofs.YtodkackgdchocaaW.PrintMore
set_option linter.unusedVariables false
theorem WiresCuts (W : World) (a0 : Int) (g0 : (Lit.int .i64 a0).wf = true) (a1 : Int) (g1 : (Lit.int .i64 a1).wf = true) (a2 : Int) (g2 : (Lit.int .i64 a2).wf = true) :
    Calls Try.prog 5 #[.int .i64 a0, .int .i64 a1, .int .i64 a2] W fun e w' => e = .returned (.bool true) ∧ Below W.heap.size W w' := stowagelaw08_WiresCuts.calls a0 a1 a2 W
end Go.Proofs.Ytodkackgdchocaa.Walks
