
/- The disk's calls, and the worked example. -/
import Derived.Outline
import Derived.Test.YtabngibognlmoaaDk2
namespace Go.Proofs.Ytabngibognlmoaa.Q
open Go.Maps Go.WideShapes Go.WideMaps Go.RowKit Go.Proofs.YtabngibognlmoaaW.PrintWords Go.Proofs.YtabngibognlmoaaW.PrintLast Go.Proofs.YtabngibognlmoaaW.PrintMore
set_option linter.unusedVariables false
set_option linter.unusedSimpArgs false
set_option maxHeartbeats 10000000
set_option maxRecDepth 100000
/-! the calls on a nil disk -/
/-! the worked example of the laws -/
abbrev nA : ByteArray := ⟨#[97]⟩
abbrev nXY : ByteArray := ⟨#[120, 121]⟩
abbrev nX : ByteArray := ⟨#[120]⟩
def aw1 : DK := ⟨[], [(nA, nXY)], [⟨0, nA, ⟨#[]⟩, nXY, 0⟩], 1, false, [], -1⟩
def aw2 : DK := ⟨[(nA, nX)], [(nA, nX)], [], 1, true, [], -1⟩
theorem aw_append : appendK newK nA nXY = (aw1, 0) := by kernel_rfl
theorem aw_fail : failK aw1 0 1 = aw2 := by kernel_rfl
theorem aw_read : readS { aw2 with down := false } nA = nX ∧ readE { aw2 with down := false } nA = 0 := by constructor <;> kernel_rfl
theorem aw_can : CanC newK ⟨0, nA, ⟨#[]⟩, nXY, 0⟩ := by
 have h : OkC [] (⟨0, nA, ⟨#[]⟩, nXY, 0⟩ : Chg) := ⟨by decide, by decide, by decide, by decide, by decide, fun e => absurd e (by decide)⟩
 exact ⟨h, by decide, by decide, by decide, h, trivial⟩
theorem awake_calls (w : World) : Calls Try.prog 10 #[] w fun e w' => e = .returned (.bool true) ∧ Below w.heap.size w w' := by
 go_enter Try.func10, Try.ntmps10
 go_wp2_with (fail)
 refine (new_calls w).mono ?_
 rintro e w1 ⟨d, rfl, hI, hb⟩
 have B1 := Aside0.mk hb
 have I1 := Aside0.mk hI
 clear hb hI
 go_wp2_with (fail)
 refine (append_calls I1.out (fun k hk => Nat.le_trans B1.out.size hk) nA nXY (by decide) (by decide) (fun _ _ => aw_can)).mono ?_
 rintro e w2 ⟨rfl, hI, hb⟩
 rw [aw_append] at hI ⊢
 have B2 := Aside0.mk (B1.out.trans (hb.below B1.out.size))
 have I2 := Aside0.mk hI
 clear hb hI I1 B1
 go_wp2_with (fail)
 refine (fail_calls I2.out (fun k hk => Nat.le_trans B2.out.size hk) ⟨aw_can.ok, trivial⟩ 0 1).mono ?_
 rintro e w3 ⟨rfl, hI, hb⟩
 rw [aw_fail] at hI
 have B3 := Aside0.mk (B2.out.trans (hb.below B2.out.size))
 have I3 := Aside0.mk hI
 clear hb hI I2 B2
 go_wp2_with (fail)
 refine (up_calls I3.out).mono ?_
 rintro e w4 ⟨rfl, hI, hb⟩
 have B4 := Aside0.mk (B3.out.trans (hb.below B3.out.size))
 have I4 := Aside0.mk hI
 clear hb hI I3 B3
 go_wp2_with (fail)
 refine (read_calls I4.out nA (by decide)).mono ?_
 rintro e w5 ⟨rfl, hb⟩
 have B5 := Aside0.mk (B4.out.trans (hb.mono B4.out.size))
 clear hb
 rw [aw_read.1, aw_read.2]
 go_wp2
 go_ret
 exact ⟨rfl, B5.out⟩
/-! Write, Move, Remove, Cut -/
theorem askE_two {dn : Bool} {a b : ByteArray} (h : askE dn [a, b] = 0) : dn = false ∧ nameS a = true ∧ nameS b = true := by
 obtain ⟨h1, h2⟩ := askE_ok h
 rw [List.all_cons, Bool.and_eq_true] at h2
 refine ⟨h1, h2.1, ?_⟩
 have h3 := h2.2
 rw [List.all_cons, Bool.and_eq_true] at h3
 exact h3.1
def writeK (st : DK) (nm s : ByteArray) : DK × Int :=
 if askE st.down [nm] = 0 then if roomE st (getF st.now nm).size s.size = true then (st, 22) else changeK st ⟨1, nm, ⟨#[]⟩, s, 0⟩ else (st, askE st.down [nm])
def moveK (st : DK) (a b : ByteArray) : DK × Int :=
 if askE st.down [a, b] = 0 then if hasF st.now a = true then if a = b then (st, 1) else changeK st ⟨2, a, b, ⟨#[]⟩, 0⟩ else (st, 4) else (st, askE st.down [a, b])
def removeK (st : DK) (a : ByteArray) : DK × Int :=
 if askE st.down [a] = 0 then if hasF st.now a = true then changeK st ⟨3, a, ⟨#[]⟩, ⟨#[]⟩, 0⟩ else (st, 4) else (st, askE st.down [a])
def cutK (st : DK) (a : ByteArray) (n : Int) : DK × Int :=
 if askE st.down [a] = 0 then if hasF st.now a = true then if 0 ≤ n ∧ n ≤ ((getF st.now a).size : Int) then changeK st ⟨4, a, ⟨#[]⟩, ⟨#[]⟩, n⟩ else (st, 1) else (st, 4) else (st, askE st.down [a])
section
variable {w : World} {d : Nat} {ok : Nat → Prop} {st : DK}
theorem remove_calls (h : IsD w d ok st) (hnew : ∀ k, w.heap.size ≤ k → ok k) (nm : ByteArray) (hs : nm.size ≤ 9223372036854775807) (hc : st.down = false → nameS nm = true → hasF st.now nm = true → CanC st ⟨3, nm, ⟨#[]⟩, ⟨#[]⟩, 0⟩) :
  Calls Try.prog 33 #[.pointer (some ⟨d, 0, none⟩), .string nm] w fun e w' => e = .returned (.int .i64 (removeK st nm).2) ∧ IsD w' d ok (removeK st nm).1 ∧ Kp ok w w' := by
 have hu := Try.underlying70
 have huc := Try.underlying74
 obtain ⟨bs, bn, vw, vf, h⟩ := h
 have H := Aside0.mk h
 have HN := Aside0.mk hnew
 have HC := Aside0.mk hc
 have HS := Aside0.mk hs
 clear h hnew hc hs
 go_enter Try.func33, Try.ntmps33
 go_wp2_with (fail)
 refine (ask_calls d st.down _ 1 [nm] _ ((World.cell?_of_block (Below.heap_alloc w _ d H.out.lt)).trans H.out.c4) (str1 w nm) (fun s hs => by rw [List.mem_singleton] at hs; rw [hs]; exact HS.out)).mono ?_
 rintro e w1 ⟨rfl, n, rfl⟩
 have H1 := Aside0.mk ((H.out.alloc (.cells #[.string nm] 9 (0, 0))).drewN n)
 have B1 : Aside0 (Below w.heap.size w ((w.alloc (.cells #[.string nm] 9 (0, 0))).drewN n)) := ⟨pw_below_drewN (below_alloc (Below.refl _ _) _) n⟩
 generalize (w.alloc (.cells #[.string nm] 9 (0, 0))).drewN n = w1 at H1 B1 ⊢
 by_cases h0 : askE st.down [nm] = 0
 ·rw [h0]
  have HE : Aside0 (removeK st nm = if hasF st.now nm = true then changeK st ⟨3, nm, ⟨#[]⟩, ⟨#[]⟩, 0⟩ else (st, 4)) := ⟨if_pos h0⟩
  have h0c := Aside0.mk h0
  clear h0
  have hL := lookok_run H1.out.now HS.out
  have hc1 := H1.out.c1
  cases hh : hasF st.now nm with
  | false =>
   rw [hh] at hL
   have HH := Aside0.mk (Bool.not_eq_true _ ▸ hh : ¬ hasF st.now nm = true)
   clear hh
   go_wp2
   go_ret
   exact ⟨by rw [HE.out, if_neg HH.out]; rfl, by rw [HE.out, if_neg HH.out]; exact ⟨_, _, _, _, H1.out⟩, Kp.of_below B1.out⟩
  | true =>
   rw [hh] at hL
   have HH := Aside0.mk hh
   clear hh
   go_wp2_with (fail)
   refine (change_calls (st := st) ⟨_, _, _, _, H1.out⟩ (fun k hk => HN.out k (Nat.le_trans (B1.out).size hk)) ⟨3, nm, ⟨#[]⟩, ⟨#[]⟩, 0⟩ (HC.out (askE_one h0c.out).1 (askE_one h0c.out).2 HH.out)).mono ?_
   rintro e w9 ⟨rfl, hI, hK⟩
   go_wp2
   go_ret
   exact ⟨by rw [HE.out, if_pos HH.out]; rfl, by rw [HE.out, if_pos HH.out]; exact hI, (Kp.of_below (B1.out)).trans hK⟩
 ·have HE : Aside0 (removeK st nm = (st, askE st.down [nm])) := ⟨if_neg h0⟩
  have h1 : (askE st.down [nm] != 0) = true := bne_iff_ne.mpr h0
  clear h0
  go_wp2
  go_ret
  exact ⟨by rw [HE.out]; rfl, by rw [HE.out]; exact ⟨_, _, _, _, H1.out⟩, Kp.of_below B1.out⟩
theorem cut_calls (h : IsD w d ok st) (hnew : ∀ k, w.heap.size ≤ k → ok k) (nm : ByteArray) (lg : Int) (hs : nm.size ≤ 9223372036854775807) (hc : st.down = false → nameS nm = true → hasF st.now nm = true → 0 ≤ lg ∧ lg ≤ ((getF st.now nm).size : Int) → CanC st ⟨4, nm, ⟨#[]⟩, ⟨#[]⟩, lg⟩) :
  Calls Try.prog 34 #[.pointer (some ⟨d, 0, none⟩), .string nm, .int .i64 lg] w fun e w' => e = .returned (.int .i64 (cutK st nm lg).2) ∧ IsD w' d ok (cutK st nm lg).1 ∧ Kp ok w w' := by
 have hu := Try.underlying70
 have huc := Try.underlying74
 obtain ⟨bs, bn, vw, vf, h⟩ := h
 have H := Aside0.mk h
 have HN := Aside0.mk hnew
 have HC := Aside0.mk hc
 have HS := Aside0.mk hs
 clear h hnew hc hs
 go_enter Try.func34, Try.ntmps34
 go_wp2_with (fail)
 refine (ask_calls d st.down _ 1 [nm] _ ((World.cell?_of_block (Below.heap_alloc w _ d H.out.lt)).trans H.out.c4) (str1 w nm) (fun s hs => by rw [List.mem_singleton] at hs; rw [hs]; exact HS.out)).mono ?_
 rintro e w1 ⟨rfl, n, rfl⟩
 have H1 := Aside0.mk ((H.out.alloc (.cells #[.string nm] 9 (0, 0))).drewN n)
 have B1 : Aside0 (Below w.heap.size w ((w.alloc (.cells #[.string nm] 9 (0, 0))).drewN n)) := ⟨pw_below_drewN (below_alloc (Below.refl _ _) _) n⟩
 generalize (w.alloc (.cells #[.string nm] 9 (0, 0))).drewN n = w1 at H1 B1 ⊢
 by_cases h0 : askE st.down [nm] = 0
 ·rw [h0]
  have HE : Aside0 (cutK st nm lg = if hasF st.now nm = true then if 0 ≤ lg ∧ lg ≤ ((getF st.now nm).size : Int) then changeK st ⟨4, nm, ⟨#[]⟩, ⟨#[]⟩, lg⟩ else (st, 1) else (st, 4)) := ⟨if_pos h0⟩
  have h0c := Aside0.mk h0
  clear h0
  have hL := lookok_run H1.out.now HS.out
  have hc1 := H1.out.c1
  cases hh : hasF st.now nm with
  | false =>
   rw [hh] at hL
   have HH := Aside0.mk (Bool.not_eq_true _ ▸ hh : ¬ hasF st.now nm = true)
   clear hh
   go_wp2
   go_ret
   exact ⟨by rw [HE.out, if_neg HH.out]; rfl, by rw [HE.out, if_neg HH.out]; exact ⟨_, _, _, _, H1.out⟩, Kp.of_below B1.out⟩
  | true =>
   rw [hh] at hL
   have HH := Aside0.mk hh
   clear hh
   by_cases h1 : lg < 0
   ·have g1 : (lg < 0) = True := eq_true h1
    have HR : Aside0 (¬ (0 ≤ lg ∧ lg ≤ ((getF st.now nm).size : Int))) := ⟨by omega⟩
    go_wp2
    go_ret
    exact ⟨by rw [HE.out, if_pos HH.out, if_neg HR.out]; rfl, by rw [HE.out, if_pos HH.out, if_neg HR.out]; exact ⟨_, _, _, _, H1.out⟩, Kp.of_below B1.out⟩
   ·have g1 : (lg < 0) = False := eq_false h1
    by_cases h2 : (getF st.now nm).size < lg
    ·have g2 : (lg > ((getF st.now nm).size : Int)) = True := eq_true h2
     have HR : Aside0 (¬ (0 ≤ lg ∧ lg ≤ ((getF st.now nm).size : Int))) := ⟨by omega⟩
     clear h1 h2
     go_wp2
     go_ret
     exact ⟨by rw [HE.out, if_pos HH.out, if_neg HR.out]; rfl, by rw [HE.out, if_pos HH.out, if_neg HR.out]; exact ⟨_, _, _, _, H1.out⟩, Kp.of_below B1.out⟩
    ·have g2 : (lg > ((getF st.now nm).size : Int)) = False := eq_false h2
     have HR : Aside0 (0 ≤ lg ∧ lg ≤ ((getF st.now nm).size : Int)) := ⟨by omega⟩
     clear h1 h2
     go_wp2_with (fail)
     refine (change_calls (st := st) ⟨_, _, _, _, H1.out⟩ (fun k hk => HN.out k (Nat.le_trans (B1.out).size hk)) ⟨4, nm, ⟨#[]⟩, ⟨#[]⟩, lg⟩ (HC.out (askE_one h0c.out).1 (askE_one h0c.out).2 HH.out HR.out)).mono ?_
     rintro e w9 ⟨rfl, hI, hK⟩
     go_wp2
     go_ret
     exact ⟨by rw [HE.out, if_pos HH.out, if_pos HR.out]; rfl, by rw [HE.out, if_pos HH.out, if_pos HR.out]; exact hI, (Kp.of_below (B1.out)).trans hK⟩
 ·have HE : Aside0 (cutK st nm lg = (st, askE st.down [nm])) := ⟨if_neg h0⟩
  have h1 : (askE st.down [nm] != 0) = true := bne_iff_ne.mpr h0
  clear h0
  go_wp2
  go_ret
  exact ⟨by rw [HE.out]; rfl, by rw [HE.out]; exact ⟨_, _, _, _, H1.out⟩, Kp.of_below B1.out⟩
theorem move_calls (h : IsD w d ok st) (hnew : ∀ k, w.heap.size ≤ k → ok k) (nm nb : ByteArray) (hs : nm.size ≤ 9223372036854775807) (hs2 : nb.size ≤ 9223372036854775807) (hc : st.down = false → nameS nm = true → nameS nb = true → hasF st.now nm = true → CanC st ⟨2, nm, nb, ⟨#[]⟩, 0⟩) :
  Calls Try.prog 15 #[.pointer (some ⟨d, 0, none⟩), .string nm, .string nb] w fun e w' => e = .returned (.int .i64 (moveK st nm nb).2) ∧ IsD w' d ok (moveK st nm nb).1 ∧ Kp ok w w' := by
 have hu := Try.underlying70
 have huc := Try.underlying74
 obtain ⟨bs, bn, vw, vf, h⟩ := h
 have H := Aside0.mk h
 have HN := Aside0.mk hnew
 have HC := Aside0.mk hc
 have HS := Aside0.mk hs
 have HS2 := Aside0.mk hs2
 clear h hnew hc hs hs2
 go_enter Try.func15, Try.ntmps15
 go_wp2_with (fail)
 refine (ask_calls d st.down _ 2 [nm, nb] _ ((World.cell?_of_block (Below.heap_alloc w _ d H.out.lt)).trans H.out.c4) (str2 w nm nb) (fun s hs => by rcases List.mem_cons.1 hs with rfl | hs; exact HS.out; rw [List.mem_singleton] at hs; rw [hs]; exact HS2.out)).mono ?_
 rintro e w1 ⟨rfl, n, rfl⟩
 have H1 := Aside0.mk ((H.out.alloc (.cells #[.string nm, .string nb] 9 (0, 0))).drewN n)
 have B1 : Aside0 (Below w.heap.size w ((w.alloc (.cells #[.string nm, .string nb] 9 (0, 0))).drewN n)) := ⟨pw_below_drewN (below_alloc (Below.refl _ _) _) n⟩
 generalize (w.alloc (.cells #[.string nm, .string nb] 9 (0, 0))).drewN n = w1 at H1 B1 ⊢
 by_cases h0 : askE st.down [nm, nb] = 0
 ·rw [h0]
  have HE : Aside0 (moveK st nm nb = if hasF st.now nm = true then if nm = nb then (st, 1) else changeK st ⟨2, nm, nb, ⟨#[]⟩, 0⟩ else (st, 4)) := ⟨if_pos h0⟩
  have h0c := Aside0.mk h0
  clear h0
  have hL := lookok_run H1.out.now HS.out
  have hc1 := H1.out.c1
  cases hh : hasF st.now nm with
  | false =>
   rw [hh] at hL
   have HH := Aside0.mk (Bool.not_eq_true _ ▸ hh : ¬ hasF st.now nm = true)
   clear hh
   go_wp2
   go_ret
   exact ⟨by rw [HE.out, if_neg HH.out]; rfl, by rw [HE.out, if_neg HH.out]; exact ⟨_, _, _, _, H1.out⟩, Kp.of_below B1.out⟩
  | true =>
   rw [hh] at hL
   have HH := Aside0.mk hh
   clear hh
   by_cases h1 : nm = nb
   ·subst h1
    have g1 : (nm.toList == nm.toList) = true := beq_self_eq_true _
    go_wp2
    go_ret
    exact ⟨by rw [HE.out, if_pos HH.out, if_pos trivial]; rfl, by rw [HE.out, if_pos HH.out, if_pos trivial]; exact ⟨_, _, _, _, H1.out⟩, Kp.of_below B1.out⟩
   ·have g1 : (nm.toList == nb.toList) = false := beq_eq_false_iff_ne.mpr (fun e => h1 (ba_inj (by rw [← ByteArray.toList_eq, ← ByteArray.toList_eq]; exact e)))
    have HR := Aside0.mk h1
    clear h1
    go_wp2_with (fail)
    refine (change_calls (st := st) ⟨_, _, _, _, H1.out⟩ (fun k hk => HN.out k (Nat.le_trans (B1.out).size hk)) ⟨2, nm, nb, ⟨#[]⟩, 0⟩ (HC.out (askE_two h0c.out).1 (askE_two h0c.out).2.1 (askE_two h0c.out).2.2 HH.out)).mono ?_
    rintro e w9 ⟨rfl, hI, hK⟩
    go_wp2
    go_ret
    exact ⟨by rw [HE.out, if_pos HH.out, if_neg HR.out]; rfl, by rw [HE.out, if_pos HH.out, if_neg HR.out]; exact hI, (Kp.of_below (B1.out)).trans hK⟩
 ·have HE : Aside0 (moveK st nm nb = (st, askE st.down [nm, nb])) := ⟨if_neg h0⟩
  have h1 : (askE st.down [nm, nb] != 0) = true := bne_iff_ne.mpr h0
  clear h0
  go_wp2
  go_ret
  exact ⟨by rw [HE.out]; rfl, by rw [HE.out]; exact ⟨_, _, _, _, H1.out⟩, Kp.of_below B1.out⟩
theorem write_calls (h : IsD w d ok st) (hnew : ∀ k, w.heap.size ≤ k → ok k) (nm s : ByteArray) (hs : nm.size ≤ 9223372036854775807) (ht : totF st.now ≤ 4000000000000000000 ∧ s.size ≤ 4000000000000000000) (hc : st.down = false → nameS nm = true → CanC st ⟨1, nm, ⟨#[]⟩, s, 0⟩) :
  Calls Try.prog 11 #[.pointer (some ⟨d, 0, none⟩), .string nm, .string s] w fun e w' => e = .returned (.int .i64 (writeK st nm s).2) ∧ IsD w' d ok (writeK st nm s).1 ∧ Kp ok w w' := by
 have hu := Try.underlying70
 have huc := Try.underlying74
 obtain ⟨bs, bn, vw, vf, h⟩ := h
 have H := Aside0.mk h
 have HN := Aside0.mk hnew
 have HC := Aside0.mk hc
 have HS := Aside0.mk hs
 have HT := Aside0.mk ht
 clear h hnew hc hs ht
 go_enter Try.func11, Try.ntmps11
 go_wp2_with (fail)
 refine (ask_calls d st.down _ 1 [nm] _ ((World.cell?_of_block (Below.heap_alloc w _ d H.out.lt)).trans H.out.c4) (str1 w nm) (fun s hs => by rw [List.mem_singleton] at hs; rw [hs]; exact HS.out)).mono ?_
 rintro e w1 ⟨rfl, n, rfl⟩
 have H1 := Aside0.mk ((H.out.alloc (.cells #[.string nm] 9 (0, 0))).drewN n)
 have B1 : Aside0 (Below w.heap.size w ((w.alloc (.cells #[.string nm] 9 (0, 0))).drewN n)) := ⟨pw_below_drewN (below_alloc (Below.refl _ _) _) n⟩
 generalize (w.alloc (.cells #[.string nm] 9 (0, 0))).drewN n = w1 at H1 B1 ⊢
 by_cases h0 : askE st.down [nm] = 0
 ·rw [h0]
  have HE : Aside0 (writeK st nm s = if roomE st (getF st.now nm).size s.size = true then (st, 22) else changeK st ⟨1, nm, ⟨#[]⟩, s, 0⟩) := ⟨if_pos h0⟩
  have h0c := Aside0.mk h0
  clear h0
  have hL := look_run H1.out.now HS.out
  have hc1 := H1.out.c1
  have GL := Aside0.mk (getF_le st.now nm)
  go_wp2_with (fail)
  clear hL
  have hc := H1.out.drew.c6
  have hc0 := H1.out.c6
  by_cases hr : 0 ≤ st.room
  ·have hr1 : (st.room ≥ 0) = True := eq_true hr
   by_cases hw : (getF st.now nm).size < s.size
   ·have hw1 : decide (((getF st.now nm).size : Int) < (s.size : Int)) = true := decide_eq_true (by omega)
    have UP := Aside0.mk (used_up (askE_one h0c.out).1)
    have HWB1 : Aside0 (-9223372036854775808 ≤ (totF st.now : Int) - ((getF st.now nm).size : Int) ∧ (totF st.now : Int) - ((getF st.now nm).size : Int) ≤ 9223372036854775807) := ⟨by have := HT.out; have := GL.out; omega⟩
    have HWB2 : Aside0 (-9223372036854775808 ≤ (totF st.now : Int) - ((getF st.now nm).size : Int) + (s.size : Int) ∧ (totF st.now : Int) - ((getF st.now nm).size : Int) + (s.size : Int) ≤ 9223372036854775807) := ⟨by have := HT.out; have := GL.out; omega⟩
    refine start_ (n := 25) (S := fun w' => w'.cell? ⟨d, 6, none⟩ = some (.int .i64 st.room)) (ds := []) #[false, false, false, false, false, false, false, false, false, false, false, false, false, false, false, false, false, false, false, false, false, false, false, false, false] (by kernel_rfl) rfl rfl hc (fun hHeld => ?_)
    refine pure_ (i := 0) (N := some 23) (v := ?_) (a' := ?_) #[true, false, false, false, false, false, false, false, false, false, false, false, false, false, false, false, false, false, false, false, false, false, false, false, false] rfl rfl (by kernel_rfl) (fun _ _ _ h => h) (Or.inl ⟨by rfl, ?_⟩) ?_ ?_
    rotate_left
    ·intro w'
     go_simp
     with_reducible rfl
    rotate_left
    ·simp only [Act.put, List.setIfInBounds_toArray, List.set_cons_zero, List.set_cons_succ]
     rfl
    refine pure_ (i := 1) (N := some 24) (v := ?_) (a' := ?_) #[true, true, false, false, false, false, false, false, false, false, false, false, false, false, false, false, false, false, false, false, false, false, false, false, false] rfl rfl (by kernel_rfl) (fun _ _ _ h => h) (Or.inl ⟨by rfl, ?_⟩) ?_ ?_
    rotate_left
    ·intro w'
     go_simp
     with_reducible rfl
    rotate_left
    ·simp only [Act.put, List.setIfInBounds_toArray, List.set_cons_zero, List.set_cons_succ]
     rfl
    refine pure_ (i := 2) (N := some 25) (v := ?_) (a' := ?_) #[true, true, true, false, false, false, false, false, false, false, false, false, false, false, false, false, false, false, false, false, false, false, false, false, false] rfl rfl (by kernel_rfl) (fun _ _ _ h => h) (Or.inl ⟨by rfl, ?_⟩) ?_ ?_
    rotate_left
    ·intro w'
     go_simp
     with_reducible rfl
    rotate_left
    ·simp only [Act.put, List.setIfInBounds_toArray, List.set_cons_zero, List.set_cons_succ]
     rfl
    refine take_ (i := 3) (N := some 26) (v := ?_) (a' := ?_) #[true, true, true, true, false, false, false, false, false, false, false, false, false, false, false, false, false, false, false, false, false, false, false, false, false] rfl rfl (by kernel_rfl) (fun _ _ _ h => h) (Or.inl ⟨by rfl, ?_⟩) (by first | exact hHeld | assumption) ?_ ?_
    rotate_left
    ·rintro w' s0
     go_simp
     with_reducible rfl
    rotate_left
    ·simp only [Act.put, List.setIfInBounds_toArray, List.set_cons_zero, List.set_cons_succ]
     rfl
    refine pure_ (i := 4) (N := some 27) (v := ?_) (a' := ?_) #[true, true, true, true, true, false, false, false, false, false, false, false, false, false, false, false, false, false, false, false, false, false, false, false, false] rfl rfl (by kernel_rfl) (fun _ _ _ h => h) (Or.inl ⟨by rfl, ?_⟩) ?_ ?_
    rotate_left
    ·intro w'
     go_simp
     with_reducible rfl
    rotate_left
    ·simp only [Act.put, List.setIfInBounds_toArray, List.set_cons_zero, List.set_cons_succ]
     rfl
    refine pure_ (i := 5) (N := some 28) (v := ?_) (a' := ?_) #[true, true, true, true, true, true, false, false, false, false, false, false, false, false, false, false, false, false, false, false, false, false, false, false, false] rfl rfl (by kernel_rfl) (fun _ _ _ h => h) (Or.inl ⟨by rfl, ?_⟩) ?_ ?_
    rotate_left
    ·intro w'
     go_simp
     with_reducible rfl
    rotate_left
    ·simp only [Act.put, List.setIfInBounds_toArray, List.set_cons_zero, List.set_cons_succ]
     rfl
    refine pure_ (i := 6) (N := some 29) (v := ?_) (a' := ?_) #[true, true, true, true, true, true, true, false, false, false, false, false, false, false, false, false, false, false, false, false, false, false, false, false, false] rfl rfl (by kernel_rfl) (fun _ _ _ h => h) (Or.inl ⟨by rfl, ?_⟩) ?_ ?_
    rotate_left
    ·intro w'
     go_simp
     with_reducible rfl
    rotate_left
    ·simp only [Act.put, List.setIfInBounds_toArray, List.set_cons_zero, List.set_cons_succ]
     rfl
    refine pure_ (i := 7) (N := some 30) (v := ?_) (a' := ?_) #[true, true, true, true, true, true, true, true, false, false, false, false, false, false, false, false, false, false, false, false, false, false, false, false, false] rfl rfl (by kernel_rfl) (fun _ _ _ h => h) (Or.inl ⟨by rfl, ?_⟩) ?_ ?_
    rotate_left
    ·intro w'
     go_simp
     with_reducible rfl
    rotate_left
    ·simp only [Act.put, List.setIfInBounds_toArray, List.set_cons_zero, List.set_cons_succ]
     rfl
    refine pure_ (i := 8) (N := some 31) (v := ?_) (a' := ?_) #[true, true, true, true, true, true, true, true, true, false, false, false, false, false, false, false, false, false, false, false, false, false, false, false, false] rfl rfl (by kernel_rfl) (fun _ _ _ h => h) (Or.inl ⟨by rfl, ?_⟩) ?_ ?_
    rotate_left
    ·intro w'
     go_simp
     with_reducible rfl
    rotate_left
    ·simp only [Act.put, List.setIfInBounds_toArray, List.set_cons_zero, List.set_cons_succ]
     rfl
    refine pure_ (i := 9) (N := some 32) (v := ?_) (a' := ?_) #[true, true, true, true, true, true, true, true, true, true, false, false, false, false, false, false, false, false, false, false, false, false, false, false, false] rfl rfl (by kernel_rfl) (fun _ _ _ h => h) (Or.inl ⟨by rfl, ?_⟩) ?_ ?_
    rotate_left
    ·intro w'
     go_simp
     with_reducible rfl
    rotate_left
    ·simp only [Act.put, List.setIfInBounds_toArray, List.set_cons_zero, List.set_cons_succ]
     rfl
    refine pure_ (i := 10) (N := some 33) (v := ?_) (a' := ?_) #[true, true, true, true, true, true, true, true, true, true, true, false, false, false, false, false, false, false, false, false, false, false, false, false, false] rfl rfl (by kernel_rfl) (fun _ _ _ h => h) (Or.inl ⟨by rfl, ?_⟩) ?_ ?_
    rotate_left
    ·intro w'
     go_simp
     with_reducible rfl
    rotate_left
    ·simp only [Act.put, List.setIfInBounds_toArray, List.set_cons_zero, List.set_cons_succ]
     rfl
    refine pure_ (i := 11) (N := some 34) (v := ?_) (a' := ?_) #[true, true, true, true, true, true, true, true, true, true, true, true, false, false, false, false, false, false, false, false, false, false, false, false, false] rfl rfl (by kernel_rfl) (fun _ _ _ h => h) (Or.inl ⟨by rfl, ?_⟩) ?_ ?_
    rotate_left
    ·intro w'
     go_simp
     with_reducible rfl
    rotate_left
    ·simp only [Act.put, List.setIfInBounds_toArray, List.set_cons_zero, List.set_cons_succ]
     rfl
    refine pure_ (i := 12) (N := some 35) (v := ?_) (a' := ?_) #[true, true, true, true, true, true, true, true, true, true, true, true, true, false, false, false, false, false, false, false, false, false, false, false, false] rfl rfl (by kernel_rfl) (fun _ _ _ h => h) (Or.inl ⟨by rfl, ?_⟩) ?_ ?_
    rotate_left
    ·intro w'
     go_simp
     with_reducible rfl
    rotate_left
    ·simp only [Act.put, List.setIfInBounds_toArray, List.set_cons_zero, List.set_cons_succ]
     rfl
    refine pure_ (i := 14) (N := some 37) (v := ?_) (a' := ?_) #[true, true, true, true, true, true, true, true, true, true, true, true, true, false, true, false, false, false, false, false, false, false, false, false, false] rfl rfl (by kernel_rfl) (fun _ _ _ h => h) (Or.inl ⟨by rfl, ?_⟩) ?_ ?_
    rotate_left
    ·intro w'
     go_simp
     with_reducible rfl
    rotate_left
    ·simp only [Act.put, List.setIfInBounds_toArray, List.set_cons_zero, List.set_cons_succ]
     rfl
    refine pure_ (i := 16) (N := some 39) (v := ?_) (a' := ?_) #[true, true, true, true, true, true, true, true, true, true, true, true, true, false, true, false, true, false, false, false, false, false, false, false, false] rfl rfl (by kernel_rfl) (fun _ _ _ h => h) (Or.inl ⟨by rfl, ?_⟩) ?_ ?_
    rotate_left
    ·intro w'
     go_simp
     with_reducible rfl
    rotate_left
    ·simp only [Act.put, List.setIfInBounds_toArray, List.set_cons_zero, List.set_cons_succ]
     rfl
    refine pure_ (i := 17) (N := some 40) (v := ?_) (a' := ?_) #[true, true, true, true, true, true, true, true, true, true, true, true, true, false, true, false, true, true, false, false, false, false, false, false, false] rfl rfl (by kernel_rfl) (fun _ _ _ h => h) (Or.inl ⟨by rfl, ?_⟩) ?_ ?_
    rotate_left
    ·intro w'
     go_simp
     with_reducible rfl
    rotate_left
    ·simp only [Act.put, List.setIfInBounds_toArray, List.set_cons_zero, List.set_cons_succ]
     rfl
    refine pure_ (i := 19) (N := some 42) (v := ?_) (a' := ?_) #[true, true, true, true, true, true, true, true, true, true, true, true, true, false, true, false, true, true, false, true, false, false, false, false, false] rfl rfl (by kernel_rfl) (fun _ _ _ h => h) (Or.inl ⟨by rfl, ?_⟩) ?_ ?_
    rotate_left
    ·intro w'
     go_simp
     with_reducible rfl
    rotate_left
    ·simp only [Act.put, List.setIfInBounds_toArray, List.set_cons_zero, List.set_cons_succ]
     rfl
    refine pure_ (i := 20) (N := some 43) (v := ?_) (a' := ?_) #[true, true, true, true, true, true, true, true, true, true, true, true, true, false, true, false, true, true, false, true, true, false, false, false, false] rfl rfl (by kernel_rfl) (fun _ _ _ h => h) (Or.inl ⟨by rfl, ?_⟩) ?_ ?_
    rotate_left
    ·intro w'
     go_simp
     with_reducible rfl
    rotate_left
    ·simp only [Act.put, List.setIfInBounds_toArray, List.set_cons_zero, List.set_cons_succ]
     rfl
    refine pure_ (i := 21) (N := some 44) (v := ?_) (a' := ?_) #[true, true, true, true, true, true, true, true, true, true, true, true, true, false, true, false, true, true, false, true, true, true, false, false, false] rfl rfl (by kernel_rfl) (fun _ _ _ h => h) (Or.inl ⟨by rfl, ?_⟩) ?_ ?_
    rotate_left
    ·intro w'
     go_simp
     with_reducible rfl
    rotate_left
    ·simp only [Act.put, List.setIfInBounds_toArray, List.set_cons_zero, List.set_cons_succ]
     rfl
    refine take_ (i := 22) (N := some 45) (v := ?_) (a' := ?_) #[true, true, true, true, true, true, true, true, true, true, true, true, true, false, true, false, true, true, false, true, true, true, true, false, false] rfl rfl (by kernel_rfl) (fun _ _ _ h => h) (Or.inl ⟨by rfl, ?_⟩) (by first | exact hHeld | assumption) ?_ ?_
    rotate_left
    ·rintro w' s0
     go_simp
     with_reducible rfl
    rotate_left
    ·simp only [Act.put, List.setIfInBounds_toArray, List.set_cons_zero, List.set_cons_succ]
     rfl
    refine one_ (i := 13) (N := some 36) #[true, true, true, true, true, true, true, true, true, true, true, true, true, true, true, false, true, true, false, true, true, true, true, false, false] rfl rfl (by kernel_rfl) (by decide) (fun K hK => ?_)
    refine call_ 22 #[.pointer (some ⟨d, 0, none⟩)] (by rfl) rfl (by first | (go_simp; done) | (go_simp; rfl)) ?_
    refine (used_calls (st := st) (ok := ok) ⟨_, _, _, _, H1.out.drew⟩ (by have := HT.out.1; omega)).mono ?_
    rintro e w2 ⟨rfl, hb⟩
    rw [UP.out]
    have H2 := Aside0.mk (H1.out.drew.below hb)
    have B2 : Aside0 (Below w.heap.size w w2) := ⟨B1.out.drew.trans (hb.mono B1.out.size)⟩
    have hc2 := H2.out.c6
    clear hb
    refine ⟨_, rfl, hK.out _ _ hc2 (fun hHeld => ?_)⟩
    clear hK K hc
    refine norm_ (a' := ?_) ?_ ?_
    rotate_left
    ·show Act.put _ (some 36) _ = _
     simp only [Act.put, List.setIfInBounds_toArray, List.set_cons_zero, List.set_cons_succ]
     rfl
    refine pure_ (i := 15) (N := some 38) (v := ?_) (a' := ?_) #[true, true, true, true, true, true, true, true, true, true, true, true, true, true, true, true, true, true, false, true, true, true, true, false, false] rfl rfl (by kernel_rfl) (fun _ _ _ h => h) (Or.inl ⟨by rfl, ?_⟩) ?_ ?_
    rotate_left
    ·intro w'
     go_simp
     with_reducible rfl
    rotate_left
    ·simp only [Act.put, List.setIfInBounds_toArray, List.set_cons_zero, List.set_cons_succ]
     rfl
    refine pure_ (i := 18) (N := some 41) (v := ?_) (a' := ?_) #[true, true, true, true, true, true, true, true, true, true, true, true, true, true, true, true, true, true, true, true, true, true, true, false, false] rfl rfl (by kernel_rfl) (fun _ _ _ h => h) (Or.inl ⟨by rfl, ?_⟩) ?_ ?_
    rotate_left
    ·intro w'
     go_simp
     with_reducible rfl
    rotate_left
    ·simp only [Act.put, List.setIfInBounds_toArray, List.set_cons_zero, List.set_cons_succ]
     rfl
    refine pure_ (i := 23) (N := some 46) (v := ?_) (a' := ?_) #[true, true, true, true, true, true, true, true, true, true, true, true, true, true, true, true, true, true, true, true, true, true, true, true, false] rfl rfl (by kernel_rfl) (fun _ _ _ h => h) (Or.inl ⟨by rfl, ?_⟩) ?_ ?_
    rotate_left
    ·intro w'
     go_simp
     with_reducible rfl
    rotate_left
    ·simp only [Act.put, List.setIfInBounds_toArray, List.set_cons_zero, List.set_cons_succ]
     rfl
    refine pure_ (i := 24) (N := some 47) (v := ?_) (a' := ?_) #[true, true, true, true, true, true, true, true, true, true, true, true, true, true, true, true, true, true, true, true, true, true, true, true, true] rfl rfl (by kernel_rfl) (fun _ _ _ h => h) (Or.inl ⟨by rfl, ?_⟩) ?_ ?_
    rotate_left
    ·intro w'
     go_simp
     with_reducible rfl
    rotate_left
    ·simp only [Act.put, List.setIfInBounds_toArray, List.set_cons_zero, List.set_cons_succ]
     rfl
    refine done_ (by kernel_rfl) ?_
    clear hHeld
    simp only [IntKind.wrap_i64]
    rw [mod_in _ HWB1.out, mod_in _ HWB2.out]
    have HSZ := Aside0.mk hw
    have HRR := Aside0.mk hr
    clear hw hr hw1 hr1
    by_cases hf : st.room < (totF st.now : Int) - ((getF st.now nm).size : Int) + (s.size : Int)
    ·have hf1 : decide (st.room < (totF st.now : Int) - ((getF st.now nm).size : Int) + (s.size : Int)) = true := decide_eq_true hf
     have HR : Aside0 (roomE st (getF st.now nm).size s.size = true) := ⟨by unfold roomE; rw [decide_eq_true_iff]; have := HSZ.out; have := HRR.out; omega⟩
     clear hf
     rw [hf1]
     clear hf1
     go_wp2
     go_ret
     exact ⟨by rw [HE.out, if_pos HR.out]; rfl, by rw [HE.out, if_pos HR.out]; exact ⟨_, _, _, _, H2.out⟩, Kp.of_below B2.out⟩
    ·have hf1 : decide (st.room < (totF st.now : Int) - ((getF st.now nm).size : Int) + (s.size : Int)) = false := decide_eq_false hf
     have HR : Aside0 (¬ roomE st (getF st.now nm).size s.size = true) := ⟨by unfold roomE; rw [decide_eq_true_iff]; omega⟩
     clear hf
     rw [hf1]
     clear hf1
     go_wp2_with (fail)
     refine (change_calls (st := st) ⟨_, _, _, _, H2.out⟩ (fun k hk => HN.out k (Nat.le_trans (B2.out).size hk)) ⟨1, nm, ⟨#[]⟩, s, 0⟩ (HC.out (askE_one h0c.out).1 (askE_one h0c.out).2)).mono ?_
     rintro e w9 ⟨rfl, hI, hK⟩
     go_wp2
     go_ret
     exact ⟨by rw [HE.out, if_neg HR.out]; rfl, by rw [HE.out, if_neg HR.out]; exact hI, (Kp.of_below (B2.out)).trans hK⟩
   ·have hw1 : decide (((getF st.now nm).size : Int) < (s.size : Int)) = false := decide_eq_false (by omega)
    have hw2 : (((getF st.now nm).size : Int) < (s.size : Int)) = False := eq_false (by omega)
    have HR : Aside0 (¬ roomE st (getF st.now nm).size s.size = true) := ⟨by unfold roomE; rw [decide_eq_true_iff]; omega⟩
    clear hw
    go_quiet (fail)
    go_wp2_with (fail)
    refine (change_calls (st := st) ⟨_, _, _, _, H1.out.drewN _⟩ (fun k hk => HN.out k (Nat.le_trans (pw_below_drewN B1.out _).size hk)) ⟨1, nm, ⟨#[]⟩, s, 0⟩ (HC.out (askE_one h0c.out).1 (askE_one h0c.out).2)).mono ?_
    rintro e w9 ⟨rfl, hI, hK⟩
    go_wp2
    go_ret
    exact ⟨by rw [HE.out, if_neg HR.out]; rfl, by rw [HE.out, if_neg HR.out]; exact hI, (Kp.of_below (pw_below_drewN B1.out _)).trans hK⟩
  ·have hr1 : (st.room ≥ 0) = False := eq_false (by omega)
   have hr2 : (0 ≤ st.room) = False := eq_false hr
   have hr3 : decide (0 ≤ st.room) = false := decide_eq_false hr
   have HR : Aside0 (¬ roomE st (getF st.now nm).size s.size = true) := ⟨by unfold roomE; rw [decide_eq_true_iff]; intro e; exact hr e.1⟩
   go_quiet (fail)
   go_wp2_with (fail)
   refine (change_calls (st := st) ⟨_, _, _, _, H1.out.drewN _⟩ (fun k hk => HN.out k (Nat.le_trans (pw_below_drewN B1.out _).size hk)) ⟨1, nm, ⟨#[]⟩, s, 0⟩ (HC.out (askE_one h0c.out).1 (askE_one h0c.out).2)).mono ?_
   rintro e w9 ⟨rfl, hI, hK⟩
   go_wp2
   go_ret
   exact ⟨by rw [HE.out, if_neg HR.out]; rfl, by rw [HE.out, if_neg HR.out]; exact hI, (Kp.of_below (pw_below_drewN B1.out _)).trans hK⟩
 ·have HE : Aside0 (writeK st nm s = (st, askE st.down [nm])) := ⟨if_neg h0⟩
  have h1 : (askE st.down [nm] != 0) = true := bne_iff_ne.mpr h0
  clear h0
  go_wp2
  go_ret
  exact ⟨by rw [HE.out]; rfl, by rw [HE.out]; exact ⟨_, _, _, _, H1.out⟩, Kp.of_below B1.out⟩
end
/-! Names -/
theorem bb_le : ∀ {a b : List UInt8}, bytesBefore a b = true → a ≤ b
 | [], b, _ => List.nil_le b
 | x :: r, [], h => by simp [bytesBefore] at h
 | x :: r, y :: s, h => by
  rw [bytesBefore, Bool.or_eq_true, Bool.and_eq_true, decide_eq_true_iff, beq_iff_eq] at h
  rw [List.cons_le_cons_iff]
  rcases h with h | ⟨h1, h2⟩
  ·exact Or.inl h
  ·exact Or.inr ⟨h1, bb_le h2⟩
def namesF (l : Fs) : List ByteArray := l.map (·.1)
theorem strKeys_dOf (l : Fs) : strKeys (dOf l) = (namesF l).map (fun s => s.data.toList) := by
 unfold dOf namesF
 show (l.map dEnt).map (fun p => strOf p.1) = _
 rw [List.map_map, List.map_map]
 rfl
theorem sorted_names {l : Fs} (h : Rises l) {ss : List (List UInt8)} (hp : ss.Perm (strKeys (dOf l))) : ss.mergeSort (fun x y => decide (x ≤ y)) = (namesF l).map (fun s => s.data.toList) := by
 rw [strKeys_dOf] at hp
 have h1 := mergeSort_of_perm hp
 refine h1.trans (List.mergeSort_of_pairwise ?_)
 rw [List.pairwise_map]
 unfold namesF
 rw [List.pairwise_map]
 exact h.imp (fun hab => decide_eq_true (bb_le hab))
theorem names_cells (l : List ByteArray) : (l.map (fun s => s.data.toList)).map encStr = encs Value.string l := by
 unfold encs
 rw [List.map_map]
 refine List.map_congr_left (fun s _ => ?_)
 simp [encStr]
theorem names_calls {w : World} {d : Nat} {ok : Nat → Prop} {st : DK} (h : IsD w d ok st) (hd : st.down = false) (hr : Rises st.now) (hl : st.now.length * 16 ≤ 140737488355328) :
  Calls Try.prog 26 #[.pointer (some ⟨d, 0, none⟩)] w fun e w' => ∃ v, e = .returned v ∧ Kd.string.R 9 w' w.heap.size (fun k => w.heap.size ≤ k) v (namesF st.now) ∧ Below w.heap.size w w' := by
 have hu := Try.underlying70
 obtain ⟨bs, bn, vw, vf, h⟩ := h
 have H := Aside0.mk h
 have HR := Aside0.mk hr
 have HL := Aside0.mk hl
 have hc1 := h.c1
 have hc4 : w.cell? ⟨d, 4, none⟩ = some (.bool false) := by rw [h.c4, hd]
 clear h hd hr hl
 go_enter Try.func26, Try.ntmps26
 go_wp2_with (fail)
 refine (callsIn_wide.1 (lay_maps_Keys (some bn) w)).mono ?_
 rintro e w1 ⟨rfl, rfl⟩
 go_wp2_with (fail)
 refine (callsIn_wide.1 (lay_Sorted_keys bn st.now.length (dOf st.now) _ w H.out.now (by rw [dOf_size]; have := HL.out; simp only [maxLen]; omega) (by rw [dOf_size]; exact HL.out))).mono ?_
 rintro e w2 ⟨v, ss, rfl, hS, hrow, _, hb⟩
 have hso := sorted_names HR.out hS
 have hlen : ss.length = (namesF st.now).length := by rw [hS.length_eq, strKeys_dOf, List.length_map]
 rw [hso, names_cells, hlen] at hrow
 have HB := Aside0.mk hb
 have HW := Aside0.mk hrow
 clear hb hrow hS hso hlen
 go_wp2
 go_ret
 have hsz : w.heap.size ≤ (w.alloc (.cells #[.map (some bn)] 67 (0, 0))).heap.size := (below_alloc (Below.refl w.heap.size w) _).size
 have hrow := ownsRow_base_a HW.out hsz
 exact ⟨_, rfl, Kd.R_of_own hrow (fun k hk => own_base hrow k hk), (below_alloc (Below.refl _ w) _).trans (HB.out.mono hsz)⟩
end Go.Proofs.Ytabngibognlmoaa.Q