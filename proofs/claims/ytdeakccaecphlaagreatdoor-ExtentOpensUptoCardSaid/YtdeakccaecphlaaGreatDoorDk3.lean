/- The disk's calls. -/
import Derived.Outline
import Derived.Test.YtdeakccaecphlaaGreatDoorDk2
namespace Go.Proofs.YtdeakccaecphlaaGreatDoor.Q
open Go.Maps Go.WideShapes Go.WideMaps Go.RowKit Go.Proofs.YtdeakccaecphlaaGreatDoorW.PrintWords Go.Proofs.YtdeakccaecphlaaGreatDoorW.PrintLast Go.Proofs.YtdeakccaecphlaaGreatDoorW.PrintMore
set_option linter.unusedVariables false
set_option linter.unusedSimpArgs false
set_option maxHeartbeats 10000000
set_option maxRecDepth 100000
/-! the calls on a nil disk -/
theorem nil_Down (w : World)  : Calls Tryz.prog 29 #[.pointer none] w fun e w' => e = .returned (.bool true) ∧ Below w.heap.size w w' := by
 go_enter Tryz.func29, Tryz.ntmps29
 go_wp2
 go_ret
 exact ⟨rfl, Below.refl _ _⟩
theorem nil_Fail (w : World) (a b : Int) : Calls Tryz.prog 32 #[.pointer none, .int .i64 a, .int .i64 b] w fun e w' => e = .returned (.tuple #[]) ∧ Below w.heap.size w w' := by
 go_enter Tryz.func32, Tryz.ntmps32
 go_wp2_with (fail)
 refine (nil_Down w).mono ?_
 rintro e w1 ⟨rfl, hb⟩
 have B := Aside0.mk hb
 clear hb
 go_wp2
 refine bodyPost_ret (results_none rfl _ _ _) rfl ?_
 exact ⟨rfl, B.out⟩
theorem nil_Up (w : World)  : Calls Tryz.prog 33 #[.pointer none] w fun e w' => e = .returned (.bool false) ∧ Below w.heap.size w w' := by
 go_enter Tryz.func33, Tryz.ntmps33
 go_wp2
 go_ret
 exact ⟨rfl, Below.refl _ _⟩
theorem nil_Names (w : World)  : Calls Tryz.prog 27 #[.pointer none] w fun e w' => e = .returned (.slice none 0 0) ∧ Below w.heap.size w w' := by
 go_enter Tryz.func27, Tryz.ntmps27
 go_wp2
 go_ret
 exact ⟨rfl, Below.refl _ _⟩
theorem nil_Used (w : World)  : Calls Tryz.prog 22 #[.pointer none] w fun e w' => e = .returned (.int .i64 0) ∧ Below w.heap.size w w' := by
 go_enter Tryz.func22, Tryz.ntmps22
 go_wp2
 go_ret
 exact ⟨rfl, Below.refl _ _⟩
theorem nil_Changes (w : World)  : Calls Tryz.prog 14 #[.pointer none] w fun e w' => e = .returned (.int .i64 0) ∧ Below w.heap.size w w' := by
 go_enter Tryz.func14, Tryz.ntmps14
 go_wp2
 go_ret
 exact ⟨rfl, Below.refl _ _⟩
theorem nil_Waits (w : World)  : Calls Tryz.prog 13 #[.pointer none] w fun e w' => e = .returned (.int .i64 0) ∧ Below w.heap.size w w' := by
 go_enter Tryz.func13, Tryz.ntmps13
 go_wp2
 go_ret
 exact ⟨rfl, Below.refl _ _⟩
theorem nil_ask (w : World) (v : Value) : Calls Tryz.prog 21 #[.pointer none, v] w fun e w' => e = .returned (.int .i64 21) ∧ Below w.heap.size w w' := by
 go_enter Tryz.func21, Tryz.ntmps21
 go_wp2
 go_ret
 exact ⟨rfl, Below.refl _ _⟩
theorem nil_Read (w : World) (a : ByteArray) : Calls Tryz.prog 28 #[.pointer none, .string a] w fun e w' => e = .returned (.tuple #[.string ⟨#[]⟩, .int .i64 21]) ∧ Below w.heap.size w w' := by
 go_enter Tryz.func28, Tryz.ntmps28
 go_wp2_with (fail)
 refine (nil_ask (w.alloc (.cells #[.string a] 9 (0, 0))) _).mono ?_
 rintro e w1 ⟨rfl, hb⟩
 have B : Aside0 (Below w.heap.size w w1) := ⟨(below_alloc (Below.refl _ _) _ : Below w.heap.size w (w.alloc (.cells #[.string a] 9 (0, 0)))).trans (hb.mono ((below_alloc (Below.refl w.heap.size w) _).size))⟩
 clear hb
 go_wp2
 go_ret2
 exact ⟨rfl, B.out⟩
theorem nil_Write (w : World) (a b : ByteArray) : Calls Tryz.prog 6 #[.pointer none, .string a, .string b] w fun e w' => e = .returned (.int .i64 21) ∧ Below w.heap.size w w' := by
 go_enter Tryz.func6, Tryz.ntmps6
 go_wp2_with (fail)
 refine (nil_ask (w.alloc (.cells #[.string a] 9 (0, 0))) _).mono ?_
 rintro e w1 ⟨rfl, hb⟩
 have B : Aside0 (Below w.heap.size w w1) := ⟨(below_alloc (Below.refl _ _) _ : Below w.heap.size w (w.alloc (.cells #[.string a] 9 (0, 0)))).trans (hb.mono ((below_alloc (Below.refl w.heap.size w) _).size))⟩
 clear hb
 go_wp2
 go_ret
 exact ⟨rfl, B.out⟩
theorem nil_Move (w : World) (a b : ByteArray) : Calls Tryz.prog 40 #[.pointer none, .string a, .string b] w fun e w' => e = .returned (.int .i64 21) ∧ Below w.heap.size w w' := by
 go_enter Tryz.func40, Tryz.ntmps40
 go_wp2_with (fail)
 refine (nil_ask (w.alloc (.cells #[.string a, .string b] 9 (0, 0))) _).mono ?_
 rintro e w1 ⟨rfl, hb⟩
 have B : Aside0 (Below w.heap.size w w1) := ⟨(below_alloc (Below.refl _ _) _ : Below w.heap.size w (w.alloc (.cells #[.string a, .string b] 9 (0, 0)))).trans (hb.mono ((below_alloc (Below.refl w.heap.size w) _).size))⟩
 clear hb
 go_wp2
 go_ret
 exact ⟨rfl, B.out⟩
theorem nil_Remove (w : World) (a : ByteArray) : Calls Tryz.prog 56 #[.pointer none, .string a] w fun e w' => e = .returned (.int .i64 21) ∧ Below w.heap.size w w' := by
 go_enter Tryz.func56, Tryz.ntmps56
 go_wp2_with (fail)
 refine (nil_ask (w.alloc (.cells #[.string a] 9 (0, 0))) _).mono ?_
 rintro e w1 ⟨rfl, hb⟩
 have B : Aside0 (Below w.heap.size w w1) := ⟨(below_alloc (Below.refl _ _) _ : Below w.heap.size w (w.alloc (.cells #[.string a] 9 (0, 0)))).trans (hb.mono ((below_alloc (Below.refl w.heap.size w) _).size))⟩
 clear hb
 go_wp2
 go_ret
 exact ⟨rfl, B.out⟩
theorem nil_Sync (w : World)  : Calls Tryz.prog 7 #[.pointer none] w fun e w' => e = .returned (.int .i64 21) ∧ Below w.heap.size w w' := by
 go_enter Tryz.func7, Tryz.ntmps7
 go_wp2_with (fail)
 refine (nil_ask w _).mono ?_
 rintro e w1 ⟨rfl, hb⟩
 have B : Aside0 (Below w.heap.size w w1) := ⟨(Below.refl _ _ : Below w.heap.size w w).trans (hb.mono (Nat.le_refl _))⟩
 clear hb
 go_wp2
 go_ret
 exact ⟨rfl, B.out⟩
/-! Write, Move, Remove, Cut -/
theorem askE_two {dn : Bool} {a b : ByteArray} (h : askE dn [a, b] = 0) : dn = false ∧ nameS a = true ∧ nameS b = true := by
 obtain ⟨h1, h2⟩ := askE_ok h
 rw [List.all_cons, Bool.and_eq_true] at h2
 refine ⟨h1, h2.1, ?_⟩
 have h3 := h2.2
 rw [List.all_cons, Bool.and_eq_true] at h3
 exact h3.1
def writeK (st : DK) (nm s : ByteArray) : DK × Int :=
 if askE st.down [nm] = 0 then if roomE st (getF st.now nm).size s.size = true then (st, 22) else changeK st ⟨1, nm, ⟨#[]⟩, s, 0⟩ else (st, askE st.down [nm])
def moveK (st : DK) (a b : ByteArray) : DK × Int :=
 if askE st.down [a, b] = 0 then if hasF st.now a = true then if a = b then (st, 1) else changeK st ⟨2, a, b, ⟨#[]⟩, 0⟩ else (st, 4) else (st, askE st.down [a, b])
def removeK (st : DK) (a : ByteArray) : DK × Int :=
 if askE st.down [a] = 0 then if hasF st.now a = true then changeK st ⟨3, a, ⟨#[]⟩, ⟨#[]⟩, 0⟩ else (st, 4) else (st, askE st.down [a])
def cutK (st : DK) (a : ByteArray) (n : Int) : DK × Int :=
 if askE st.down [a] = 0 then if hasF st.now a = true then if 0 ≤ n ∧ n ≤ ((getF st.now a).size : Int) then changeK st ⟨4, a, ⟨#[]⟩, ⟨#[]⟩, n⟩ else (st, 1) else (st, 4) else (st, askE st.down [a])
section
variable {w : World} {d : Nat} {ok : Nat → Prop} {st : DK}
theorem remove_calls (h : IsD w d ok st) (hnew : ∀ k, w.heap.size ≤ k → ok k) (nm : ByteArray) (hs : nm.size ≤ 9223372036854775807) (hc : st.down = false → nameS nm = true → hasF st.now nm = true → CanC st ⟨3, nm, ⟨#[]⟩, ⟨#[]⟩, 0⟩) :
  Calls Tryz.prog 56 #[.pointer (some ⟨d, 0, none⟩), .string nm] w fun e w' => e = .returned (.int .i64 (removeK st nm).2) ∧ IsD w' d ok (removeK st nm).1 ∧ Kp ok w w' := by
 have hu := Tryz.underlying54
 have huc := Tryz.underlying58
 obtain ⟨bs, bn, vw, vf, h⟩ := h
 have H := Aside0.mk h
 have HN := Aside0.mk hnew
 have HC := Aside0.mk hc
 have HS := Aside0.mk hs
 clear h hnew hc hs
 go_enter Tryz.func56, Tryz.ntmps56
 go_wp2_with (fail)
 refine (ask_calls d st.down _ 1 [nm] _ ((World.cell?_of_block (Below.heap_alloc w _ d H.out.lt)).trans H.out.c4) (str1 w nm) (fun s hs => by rw [List.mem_singleton] at hs; rw [hs]; exact HS.out)).mono ?_
 rintro e w1 ⟨rfl, n, rfl⟩
 have H1 := Aside0.mk ((H.out.alloc (.cells #[.string nm] 9 (0, 0))).drewN n)
 have B1 : Aside0 (Below w.heap.size w ((w.alloc (.cells #[.string nm] 9 (0, 0))).drewN n)) := ⟨pw_below_drewN (below_alloc (Below.refl _ _) _) n⟩
 generalize (w.alloc (.cells #[.string nm] 9 (0, 0))).drewN n = w1 at H1 B1 ⊢
 by_cases h0 : askE st.down [nm] = 0
 ·rw [h0]
  have HE : Aside0 (removeK st nm = if hasF st.now nm = true then changeK st ⟨3, nm, ⟨#[]⟩, ⟨#[]⟩, 0⟩ else (st, 4)) := ⟨if_pos h0⟩
  have h0c := Aside0.mk h0
  clear h0
  have hL := lookok_run H1.out.now HS.out
  have hc1 := H1.out.c1
  cases hh : hasF st.now nm with
  | false =>
   rw [hh] at hL
   have HH := Aside0.mk (Bool.not_eq_true _ ▸ hh : ¬ hasF st.now nm = true)
   clear hh
   go_wp2
   go_ret
   exact ⟨by rw [HE.out, if_neg HH.out]; rfl, by rw [HE.out, if_neg HH.out]; exact ⟨_, _, _, _, H1.out⟩, Kp.of_below B1.out⟩
  | true =>
   rw [hh] at hL
   have HH := Aside0.mk hh
   clear hh
   go_wp2_with (fail)
   refine (change_calls (st := st) ⟨_, _, _, _, H1.out⟩ (fun k hk => HN.out k (Nat.le_trans (B1.out).size hk)) ⟨3, nm, ⟨#[]⟩, ⟨#[]⟩, 0⟩ (HC.out (askE_one h0c.out).1 (askE_one h0c.out).2 HH.out)).mono ?_
   rintro e w9 ⟨rfl, hI, hK⟩
   go_wp2
   go_ret
   exact ⟨by rw [HE.out, if_pos HH.out]; rfl, by rw [HE.out, if_pos HH.out]; exact hI, (Kp.of_below (B1.out)).trans hK⟩
 ·have HE : Aside0 (removeK st nm = (st, askE st.down [nm])) := ⟨if_neg h0⟩
  have h1 : (askE st.down [nm] != 0) = true := bne_iff_ne.mpr h0
  clear h0
  go_wp2
  go_ret
  exact ⟨by rw [HE.out]; rfl, by rw [HE.out]; exact ⟨_, _, _, _, H1.out⟩, Kp.of_below B1.out⟩
theorem move_calls (h : IsD w d ok st) (hnew : ∀ k, w.heap.size ≤ k → ok k) (nm nb : ByteArray) (hs : nm.size ≤ 9223372036854775807) (hs2 : nb.size ≤ 9223372036854775807) (hc : st.down = false → nameS nm = true → nameS nb = true → hasF st.now nm = true → CanC st ⟨2, nm, nb, ⟨#[]⟩, 0⟩) :
  Calls Tryz.prog 40 #[.pointer (some ⟨d, 0, none⟩), .string nm, .string nb] w fun e w' => e = .returned (.int .i64 (moveK st nm nb).2) ∧ IsD w' d ok (moveK st nm nb).1 ∧ Kp ok w w' := by
 have hu := Tryz.underlying54
 have huc := Tryz.underlying58
 obtain ⟨bs, bn, vw, vf, h⟩ := h
 have H := Aside0.mk h
 have HN := Aside0.mk hnew
 have HC := Aside0.mk hc
 have HS := Aside0.mk hs
 have HS2 := Aside0.mk hs2
 clear h hnew hc hs hs2
 go_enter Tryz.func40, Tryz.ntmps40
 go_wp2_with (fail)
 refine (ask_calls d st.down _ 2 [nm, nb] _ ((World.cell?_of_block (Below.heap_alloc w _ d H.out.lt)).trans H.out.c4) (str2 w nm nb) (fun s hs => by rcases List.mem_cons.1 hs with rfl | hs; exact HS.out; rw [List.mem_singleton] at hs; rw [hs]; exact HS2.out)).mono ?_
 rintro e w1 ⟨rfl, n, rfl⟩
 have H1 := Aside0.mk ((H.out.alloc (.cells #[.string nm, .string nb] 9 (0, 0))).drewN n)
 have B1 : Aside0 (Below w.heap.size w ((w.alloc (.cells #[.string nm, .string nb] 9 (0, 0))).drewN n)) := ⟨pw_below_drewN (below_alloc (Below.refl _ _) _) n⟩
 generalize (w.alloc (.cells #[.string nm, .string nb] 9 (0, 0))).drewN n = w1 at H1 B1 ⊢
 by_cases h0 : askE st.down [nm, nb] = 0
 ·rw [h0]
  have HE : Aside0 (moveK st nm nb = if hasF st.now nm = true then if nm = nb then (st, 1) else changeK st ⟨2, nm, nb, ⟨#[]⟩, 0⟩ else (st, 4)) := ⟨if_pos h0⟩
  have h0c := Aside0.mk h0
  clear h0
  have hL := lookok_run H1.out.now HS.out
  have hc1 := H1.out.c1
  cases hh : hasF st.now nm with
  | false =>
   rw [hh] at hL
   have HH := Aside0.mk (Bool.not_eq_true _ ▸ hh : ¬ hasF st.now nm = true)
   clear hh
   go_wp2
   go_ret
   exact ⟨by rw [HE.out, if_neg HH.out]; rfl, by rw [HE.out, if_neg HH.out]; exact ⟨_, _, _, _, H1.out⟩, Kp.of_below B1.out⟩
  | true =>
   rw [hh] at hL
   have HH := Aside0.mk hh
   clear hh
   by_cases h1 : nm = nb
   ·subst h1
    have g1 : (nm.toList == nm.toList) = true := beq_self_eq_true _
    go_wp2
    go_ret
    exact ⟨by rw [HE.out, if_pos HH.out, if_pos trivial]; rfl, by rw [HE.out, if_pos HH.out, if_pos trivial]; exact ⟨_, _, _, _, H1.out⟩, Kp.of_below B1.out⟩
   ·have g1 : (nm.toList == nb.toList) = false := beq_eq_false_iff_ne.mpr (fun e => h1 (ba_inj (by rw [← ByteArray.toList_eq, ← ByteArray.toList_eq]; exact e)))
    have HR := Aside0.mk h1
    clear h1
    go_wp2_with (fail)
    refine (change_calls (st := st) ⟨_, _, _, _, H1.out⟩ (fun k hk => HN.out k (Nat.le_trans (B1.out).size hk)) ⟨2, nm, nb, ⟨#[]⟩, 0⟩ (HC.out (askE_two h0c.out).1 (askE_two h0c.out).2.1 (askE_two h0c.out).2.2 HH.out)).mono ?_
    rintro e w9 ⟨rfl, hI, hK⟩
    go_wp2
    go_ret
    exact ⟨by rw [HE.out, if_pos HH.out, if_neg HR.out]; rfl, by rw [HE.out, if_pos HH.out, if_neg HR.out]; exact hI, (Kp.of_below (B1.out)).trans hK⟩
 ·have HE : Aside0 (moveK st nm nb = (st, askE st.down [nm, nb])) := ⟨if_neg h0⟩
  have h1 : (askE st.down [nm, nb] != 0) = true := bne_iff_ne.mpr h0
  clear h0
  go_wp2
  go_ret
  exact ⟨by rw [HE.out]; rfl, by rw [HE.out]; exact ⟨_, _, _, _, H1.out⟩, Kp.of_below B1.out⟩
theorem write_calls (h : IsD w d ok st) (hnew : ∀ k, w.heap.size ≤ k → ok k) (nm s : ByteArray) (hs : nm.size ≤ 9223372036854775807) (ht : totF st.now ≤ 4000000000000000000 ∧ s.size ≤ 4000000000000000000) (hc : st.down = false → nameS nm = true → CanC st ⟨1, nm, ⟨#[]⟩, s, 0⟩) :
  Calls Tryz.prog 6 #[.pointer (some ⟨d, 0, none⟩), .string nm, .string s] w fun e w' => e = .returned (.int .i64 (writeK st nm s).2) ∧ IsD w' d ok (writeK st nm s).1 ∧ Kp ok w w' := by
 have hu := Tryz.underlying54
 have huc := Tryz.underlying58
 obtain ⟨bs, bn, vw, vf, h⟩ := h
 have H := Aside0.mk h
 have HN := Aside0.mk hnew
 have HC := Aside0.mk hc
 have HS := Aside0.mk hs
 have HT := Aside0.mk ht
 clear h hnew hc hs ht
 go_enter Tryz.func6, Tryz.ntmps6
 go_wp2_with (fail)
 refine (ask_calls d st.down _ 1 [nm] _ ((World.cell?_of_block (Below.heap_alloc w _ d H.out.lt)).trans H.out.c4) (str1 w nm) (fun s hs => by rw [List.mem_singleton] at hs; rw [hs]; exact HS.out)).mono ?_
 rintro e w1 ⟨rfl, n, rfl⟩
 have H1 := Aside0.mk ((H.out.alloc (.cells #[.string nm] 9 (0, 0))).drewN n)
 have B1 : Aside0 (Below w.heap.size w ((w.alloc (.cells #[.string nm] 9 (0, 0))).drewN n)) := ⟨pw_below_drewN (below_alloc (Below.refl _ _) _) n⟩
 generalize (w.alloc (.cells #[.string nm] 9 (0, 0))).drewN n = w1 at H1 B1 ⊢
 by_cases h0 : askE st.down [nm] = 0
 ·rw [h0]
  have HE : Aside0 (writeK st nm s = if roomE st (getF st.now nm).size s.size = true then (st, 22) else changeK st ⟨1, nm, ⟨#[]⟩, s, 0⟩) := ⟨if_pos h0⟩
  have h0c := Aside0.mk h0
  clear h0
  have hL := look_run H1.out.now HS.out
  have hc1 := H1.out.c1
  have GL := Aside0.mk (getF_le st.now nm)
  go_wp2_with (fail)
  clear hL
  have hc := H1.out.drew.c6
  have hc0 := H1.out.c6
  by_cases hr : 0 ≤ st.room
  ·have hr1 : (st.room ≥ 0) = True := eq_true hr
   by_cases hw : (getF st.now nm).size < s.size
   ·have hw1 : decide (((getF st.now nm).size : Int) < (s.size : Int)) = true := decide_eq_true (by omega)
    have UP := Aside0.mk (used_up (askE_one h0c.out).1)
    have HWB1 : Aside0 (-9223372036854775808 ≤ (totF st.now : Int) - ((getF st.now nm).size : Int) ∧ (totF st.now : Int) - ((getF st.now nm).size : Int) ≤ 9223372036854775807) := ⟨by have := HT.out; have := GL.out; omega⟩
    have HWB2 : Aside0 (-9223372036854775808 ≤ (totF st.now : Int) - ((getF st.now nm).size : Int) + (s.size : Int) ∧ (totF st.now : Int) - ((getF st.now nm).size : Int) + (s.size : Int) ≤ 9223372036854775807) := ⟨by have := HT.out; have := GL.out; omega⟩
    refine start_ (n := 25) (S := fun w' => w'.cell? ⟨d, 6, none⟩ = some (.int .i64 st.room)) (ds := []) #[false, false, false, false, false, false, false, false, false, false, false, false, false, false, false, false, false, false, false, false, false, false, false, false, false] (by kernel_rfl) rfl rfl hc (fun hHeld => ?_)
    refine pure_ (i := 0) (N := some 23) (v := ?_) (a' := ?_) #[true, false, false, false, false, false, false, false, false, false, false, false, false, false, false, false, false, false, false, false, false, false, false, false, false] rfl rfl (by kernel_rfl) (fun _ _ _ h => h) (Or.inl ⟨by rfl, ?_⟩) ?_ ?_
    rotate_left
    ·intro w'
     go_simp
     with_reducible rfl
    rotate_left
    ·simp only [Act.put, List.setIfInBounds_toArray, List.set_cons_zero, List.set_cons_succ]
     rfl
    refine pure_ (i := 1) (N := some 24) (v := ?_) (a' := ?_) #[true, true, false, false, false, false, false, false, false, false, false, false, false, false, false, false, false, false, false, false, false, false, false, false, false] rfl rfl (by kernel_rfl) (fun _ _ _ h => h) (Or.inl ⟨by rfl, ?_⟩) ?_ ?_
    rotate_left
    ·intro w'
     go_simp
     with_reducible rfl
    rotate_left
    ·simp only [Act.put, List.setIfInBounds_toArray, List.set_cons_zero, List.set_cons_succ]
     rfl
    refine pure_ (i := 2) (N := some 25) (v := ?_) (a' := ?_) #[true, true, true, false, false, false, false, false, false, false, false, false, false, false, false, false, false, false, false, false, false, false, false, false, false] rfl rfl (by kernel_rfl) (fun _ _ _ h => h) (Or.inl ⟨by rfl, ?_⟩) ?_ ?_
    rotate_left
    ·intro w'
     go_simp
     with_reducible rfl
    rotate_left
    ·simp only [Act.put, List.setIfInBounds_toArray, List.set_cons_zero, List.set_cons_succ]
     rfl
    refine take_ (i := 3) (N := some 26) (v := ?_) (a' := ?_) #[true, true, true, true, false, false, false, false, false, false, false, false, false, false, false, false, false, false, false, false, false, false, false, false, false] rfl rfl (by kernel_rfl) (fun _ _ _ h => h) (Or.inl ⟨by rfl, ?_⟩) (by first | exact hHeld | assumption) ?_ ?_
    rotate_left
    ·rintro w' s0
     go_simp
     with_reducible rfl
    rotate_left
    ·simp only [Act.put, List.setIfInBounds_toArray, List.set_cons_zero, List.set_cons_succ]
     rfl
    refine pure_ (i := 4) (N := some 27) (v := ?_) (a' := ?_) #[true, true, true, true, true, false, false, false, false, false, false, false, false, false, false, false, false, false, false, false, false, false, false, false, false] rfl rfl (by kernel_rfl) (fun _ _ _ h => h) (Or.inl ⟨by rfl, ?_⟩) ?_ ?_
    rotate_left
    ·intro w'
     go_simp
     with_reducible rfl
    rotate_left
    ·simp only [Act.put, List.setIfInBounds_toArray, List.set_cons_zero, List.set_cons_succ]
     rfl
    refine pure_ (i := 5) (N := some 28) (v := ?_) (a' := ?_) #[true, true, true, true, true, true, false, false, false, false, false, false, false, false, false, false, false, false, false, false, false, false, false, false, false] rfl rfl (by kernel_rfl) (fun _ _ _ h => h) (Or.inl ⟨by rfl, ?_⟩) ?_ ?_
    rotate_left
    ·intro w'
     go_simp
     with_reducible rfl
    rotate_left
    ·simp only [Act.put, List.setIfInBounds_toArray, List.set_cons_zero, List.set_cons_succ]
     rfl
    refine pure_ (i := 6) (N := some 29) (v := ?_) (a' := ?_) #[true, true, true, true, true, true, true, false, false, false, false, false, false, false, false, false, false, false, false, false, false, false, false, false, false] rfl rfl (by kernel_rfl) (fun _ _ _ h => h) (Or.inl ⟨by rfl, ?_⟩) ?_ ?_
    rotate_left
    ·intro w'
     go_simp
     with_reducible rfl
    rotate_left
    ·simp only [Act.put, List.setIfInBounds_toArray, List.set_cons_zero, List.set_cons_succ]
     rfl
    refine pure_ (i := 7) (N := some 30) (v := ?_) (a' := ?_) #[true, true, true, true, true, true, true, true, false, false, false, false, false, false, false, false, false, false, false, false, false, false, false, false, false] rfl rfl (by kernel_rfl) (fun _ _ _ h => h) (Or.inl ⟨by rfl, ?_⟩) ?_ ?_
    rotate_left
    ·intro w'
     go_simp
     with_reducible rfl
    rotate_left
    ·simp only [Act.put, List.setIfInBounds_toArray, List.set_cons_zero, List.set_cons_succ]
     rfl
    refine pure_ (i := 8) (N := some 31) (v := ?_) (a' := ?_) #[true, true, true, true, true, true, true, true, true, false, false, false, false, false, false, false, false, false, false, false, false, false, false, false, false] rfl rfl (by kernel_rfl) (fun _ _ _ h => h) (Or.inl ⟨by rfl, ?_⟩) ?_ ?_
    rotate_left
    ·intro w'
     go_simp
     with_reducible rfl
    rotate_left
    ·simp only [Act.put, List.setIfInBounds_toArray, List.set_cons_zero, List.set_cons_succ]
     rfl
    refine pure_ (i := 9) (N := some 32) (v := ?_) (a' := ?_) #[true, true, true, true, true, true, true, true, true, true, false, false, false, false, false, false, false, false, false, false, false, false, false, false, false] rfl rfl (by kernel_rfl) (fun _ _ _ h => h) (Or.inl ⟨by rfl, ?_⟩) ?_ ?_
    rotate_left
    ·intro w'
     go_simp
     with_reducible rfl
    rotate_left
    ·simp only [Act.put, List.setIfInBounds_toArray, List.set_cons_zero, List.set_cons_succ]
     rfl
    refine pure_ (i := 10) (N := some 33) (v := ?_) (a' := ?_) #[true, true, true, true, true, true, true, true, true, true, true, false, false, false, false, false, false, false, false, false, false, false, false, false, false] rfl rfl (by kernel_rfl) (fun _ _ _ h => h) (Or.inl ⟨by rfl, ?_⟩) ?_ ?_
    rotate_left
    ·intro w'
     go_simp
     with_reducible rfl
    rotate_left
    ·simp only [Act.put, List.setIfInBounds_toArray, List.set_cons_zero, List.set_cons_succ]
     rfl
    refine pure_ (i := 11) (N := some 34) (v := ?_) (a' := ?_) #[true, true, true, true, true, true, true, true, true, true, true, true, false, false, false, false, false, false, false, false, false, false, false, false, false] rfl rfl (by kernel_rfl) (fun _ _ _ h => h) (Or.inl ⟨by rfl, ?_⟩) ?_ ?_
    rotate_left
    ·intro w'
     go_simp
     with_reducible rfl
    rotate_left
    ·simp only [Act.put, List.setIfInBounds_toArray, List.set_cons_zero, List.set_cons_succ]
     rfl
    refine pure_ (i := 12) (N := some 35) (v := ?_) (a' := ?_) #[true, true, true, true, true, true, true, true, true, true, true, true, true, false, false, false, false, false, false, false, false, false, false, false, false] rfl rfl (by kernel_rfl) (fun _ _ _ h => h) (Or.inl ⟨by rfl, ?_⟩) ?_ ?_
    rotate_left
    ·intro w'
     go_simp
     with_reducible rfl
    rotate_left
    ·simp only [Act.put, List.setIfInBounds_toArray, List.set_cons_zero, List.set_cons_succ]
     rfl
    refine pure_ (i := 14) (N := some 37) (v := ?_) (a' := ?_) #[true, true, true, true, true, true, true, true, true, true, true, true, true, false, true, false, false, false, false, false, false, false, false, false, false] rfl rfl (by kernel_rfl) (fun _ _ _ h => h) (Or.inl ⟨by rfl, ?_⟩) ?_ ?_
    rotate_left
    ·intro w'
     go_simp
     with_reducible rfl
    rotate_left
    ·simp only [Act.put, List.setIfInBounds_toArray, List.set_cons_zero, List.set_cons_succ]
     rfl
    refine pure_ (i := 16) (N := some 39) (v := ?_) (a' := ?_) #[true, true, true, true, true, true, true, true, true, true, true, true, true, false, true, false, true, false, false, false, false, false, false, false, false] rfl rfl (by kernel_rfl) (fun _ _ _ h => h) (Or.inl ⟨by rfl, ?_⟩) ?_ ?_
    rotate_left
    ·intro w'
     go_simp
     with_reducible rfl
    rotate_left
    ·simp only [Act.put, List.setIfInBounds_toArray, List.set_cons_zero, List.set_cons_succ]
     rfl
    refine pure_ (i := 17) (N := some 40) (v := ?_) (a' := ?_) #[true, true, true, true, true, true, true, true, true, true, true, true, true, false, true, false, true, true, false, false, false, false, false, false, false] rfl rfl (by kernel_rfl) (fun _ _ _ h => h) (Or.inl ⟨by rfl, ?_⟩) ?_ ?_
    rotate_left
    ·intro w'
     go_simp
     with_reducible rfl
    rotate_left
    ·simp only [Act.put, List.setIfInBounds_toArray, List.set_cons_zero, List.set_cons_succ]
     rfl
    refine pure_ (i := 19) (N := some 42) (v := ?_) (a' := ?_) #[true, true, true, true, true, true, true, true, true, true, true, true, true, false, true, false, true, true, false, true, false, false, false, false, false] rfl rfl (by kernel_rfl) (fun _ _ _ h => h) (Or.inl ⟨by rfl, ?_⟩) ?_ ?_
    rotate_left
    ·intro w'
     go_simp
     with_reducible rfl
    rotate_left
    ·simp only [Act.put, List.setIfInBounds_toArray, List.set_cons_zero, List.set_cons_succ]
     rfl
    refine pure_ (i := 20) (N := some 43) (v := ?_) (a' := ?_) #[true, true, true, true, true, true, true, true, true, true, true, true, true, false, true, false, true, true, false, true, true, false, false, false, false] rfl rfl (by kernel_rfl) (fun _ _ _ h => h) (Or.inl ⟨by rfl, ?_⟩) ?_ ?_
    rotate_left
    ·intro w'
     go_simp
     with_reducible rfl
    rotate_left
    ·simp only [Act.put, List.setIfInBounds_toArray, List.set_cons_zero, List.set_cons_succ]
     rfl
    refine pure_ (i := 21) (N := some 44) (v := ?_) (a' := ?_) #[true, true, true, true, true, true, true, true, true, true, true, true, true, false, true, false, true, true, false, true, true, true, false, false, false] rfl rfl (by kernel_rfl) (fun _ _ _ h => h) (Or.inl ⟨by rfl, ?_⟩) ?_ ?_
    rotate_left
    ·intro w'
     go_simp
     with_reducible rfl
    rotate_left
    ·simp only [Act.put, List.setIfInBounds_toArray, List.set_cons_zero, List.set_cons_succ]
     rfl
    refine take_ (i := 22) (N := some 45) (v := ?_) (a' := ?_) #[true, true, true, true, true, true, true, true, true, true, true, true, true, false, true, false, true, true, false, true, true, true, true, false, false] rfl rfl (by kernel_rfl) (fun _ _ _ h => h) (Or.inl ⟨by rfl, ?_⟩) (by first | exact hHeld | assumption) ?_ ?_
    rotate_left
    ·rintro w' s0
     go_simp
     with_reducible rfl
    rotate_left
    ·simp only [Act.put, List.setIfInBounds_toArray, List.set_cons_zero, List.set_cons_succ]
     rfl
    refine one_ (i := 13) (N := some 36) #[true, true, true, true, true, true, true, true, true, true, true, true, true, true, true, false, true, true, false, true, true, true, true, false, false] rfl rfl (by kernel_rfl) (by decide) (fun K hK => ?_)
    refine call_ 22 #[.pointer (some ⟨d, 0, none⟩)] (by rfl) rfl (by first | (go_simp; done) | (go_simp; rfl)) ?_
    refine (used_calls (st := st) (ok := ok) ⟨_, _, _, _, H1.out.drew⟩ (by have := HT.out.1; omega)).mono ?_
    rintro e w2 ⟨rfl, hb⟩
    rw [UP.out]
    have H2 := Aside0.mk (H1.out.drew.below hb)
    have B2 : Aside0 (Below w.heap.size w w2) := ⟨B1.out.drew.trans (hb.mono B1.out.size)⟩
    have hc2 := H2.out.c6
    clear hb
    refine ⟨_, rfl, hK.out _ _ hc2 (fun hHeld => ?_)⟩
    clear hK K hc
    refine norm_ (a' := ?_) ?_ ?_
    rotate_left
    ·show Act.put _ (some 36) _ = _
     simp only [Act.put, List.setIfInBounds_toArray, List.set_cons_zero, List.set_cons_succ]
     rfl
    refine pure_ (i := 15) (N := some 38) (v := ?_) (a' := ?_) #[true, true, true, true, true, true, true, true, true, true, true, true, true, true, true, true, true, true, false, true, true, true, true, false, false] rfl rfl (by kernel_rfl) (fun _ _ _ h => h) (Or.inl ⟨by rfl, ?_⟩) ?_ ?_
    rotate_left
    ·intro w'
     go_simp
     with_reducible rfl
    rotate_left
    ·simp only [Act.put, List.setIfInBounds_toArray, List.set_cons_zero, List.set_cons_succ]
     rfl
    refine pure_ (i := 18) (N := some 41) (v := ?_) (a' := ?_) #[true, true, true, true, true, true, true, true, true, true, true, true, true, true, true, true, true, true, true, true, true, true, true, false, false] rfl rfl (by kernel_rfl) (fun _ _ _ h => h) (Or.inl ⟨by rfl, ?_⟩) ?_ ?_
    rotate_left
    ·intro w'
     go_simp
     with_reducible rfl
    rotate_left
    ·simp only [Act.put, List.setIfInBounds_toArray, List.set_cons_zero, List.set_cons_succ]
     rfl
    refine pure_ (i := 23) (N := some 46) (v := ?_) (a' := ?_) #[true, true, true, true, true, true, true, true, true, true, true, true, true, true, true, true, true, true, true, true, true, true, true, true, false] rfl rfl (by kernel_rfl) (fun _ _ _ h => h) (Or.inl ⟨by rfl, ?_⟩) ?_ ?_
    rotate_left
    ·intro w'
     go_simp
     with_reducible rfl
    rotate_left
    ·simp only [Act.put, List.setIfInBounds_toArray, List.set_cons_zero, List.set_cons_succ]
     rfl
    refine pure_ (i := 24) (N := some 47) (v := ?_) (a' := ?_) #[true, true, true, true, true, true, true, true, true, true, true, true, true, true, true, true, true, true, true, true, true, true, true, true, true] rfl rfl (by kernel_rfl) (fun _ _ _ h => h) (Or.inl ⟨by rfl, ?_⟩) ?_ ?_
    rotate_left
    ·intro w'
     go_simp
     with_reducible rfl
    rotate_left
    ·simp only [Act.put, List.setIfInBounds_toArray, List.set_cons_zero, List.set_cons_succ]
     rfl
    refine done_ (by kernel_rfl) ?_
    clear hHeld
    simp only [IntKind.wrap_i64]
    rw [mod_in _ HWB1.out, mod_in _ HWB2.out]
    have HSZ := Aside0.mk hw
    have HRR := Aside0.mk hr
    clear hw hr hw1 hr1
    by_cases hf : st.room < (totF st.now : Int) - ((getF st.now nm).size : Int) + (s.size : Int)
    ·have hf1 : decide (st.room < (totF st.now : Int) - ((getF st.now nm).size : Int) + (s.size : Int)) = true := decide_eq_true hf
     have HR : Aside0 (roomE st (getF st.now nm).size s.size = true) := ⟨by unfold roomE; rw [decide_eq_true_iff]; have := HSZ.out; have := HRR.out; omega⟩
     clear hf
     rw [hf1]
     clear hf1
     go_wp2
     go_ret
     exact ⟨by rw [HE.out, if_pos HR.out]; rfl, by rw [HE.out, if_pos HR.out]; exact ⟨_, _, _, _, H2.out⟩, Kp.of_below B2.out⟩
    ·have hf1 : decide (st.room < (totF st.now : Int) - ((getF st.now nm).size : Int) + (s.size : Int)) = false := decide_eq_false hf
     have HR : Aside0 (¬ roomE st (getF st.now nm).size s.size = true) := ⟨by unfold roomE; rw [decide_eq_true_iff]; omega⟩
     clear hf
     rw [hf1]
     clear hf1
     go_wp2_with (fail)
     refine (change_calls (st := st) ⟨_, _, _, _, H2.out⟩ (fun k hk => HN.out k (Nat.le_trans (B2.out).size hk)) ⟨1, nm, ⟨#[]⟩, s, 0⟩ (HC.out (askE_one h0c.out).1 (askE_one h0c.out).2)).mono ?_
     rintro e w9 ⟨rfl, hI, hK⟩
     go_wp2
     go_ret
     exact ⟨by rw [HE.out, if_neg HR.out]; rfl, by rw [HE.out, if_neg HR.out]; exact hI, (Kp.of_below (B2.out)).trans hK⟩
   ·have hw1 : decide (((getF st.now nm).size : Int) < (s.size : Int)) = false := decide_eq_false (by omega)
    have hw2 : (((getF st.now nm).size : Int) < (s.size : Int)) = False := eq_false (by omega)
    have HR : Aside0 (¬ roomE st (getF st.now nm).size s.size = true) := ⟨by unfold roomE; rw [decide_eq_true_iff]; omega⟩
    clear hw
    go_quiet (fail)
    go_wp2_with (fail)
    refine (change_calls (st := st) ⟨_, _, _, _, H1.out.drewN _⟩ (fun k hk => HN.out k (Nat.le_trans (pw_below_drewN B1.out _).size hk)) ⟨1, nm, ⟨#[]⟩, s, 0⟩ (HC.out (askE_one h0c.out).1 (askE_one h0c.out).2)).mono ?_
    rintro e w9 ⟨rfl, hI, hK⟩
    go_wp2
    go_ret
    exact ⟨by rw [HE.out, if_neg HR.out]; rfl, by rw [HE.out, if_neg HR.out]; exact hI, (Kp.of_below (pw_below_drewN B1.out _)).trans hK⟩
  ·have hr1 : (st.room ≥ 0) = False := eq_false (by omega)
   have hr2 : (0 ≤ st.room) = False := eq_false hr
   have hr3 : decide (0 ≤ st.room) = false := decide_eq_false hr
   have HR : Aside0 (¬ roomE st (getF st.now nm).size s.size = true) := ⟨by unfold roomE; rw [decide_eq_true_iff]; intro e; exact hr e.1⟩
   go_quiet (fail)
   go_wp2_with (fail)
   refine (change_calls (st := st) ⟨_, _, _, _, H1.out.drewN _⟩ (fun k hk => HN.out k (Nat.le_trans (pw_below_drewN B1.out _).size hk)) ⟨1, nm, ⟨#[]⟩, s, 0⟩ (HC.out (askE_one h0c.out).1 (askE_one h0c.out).2)).mono ?_
   rintro e w9 ⟨rfl, hI, hK⟩
   go_wp2
   go_ret
   exact ⟨by rw [HE.out, if_neg HR.out]; rfl, by rw [HE.out, if_neg HR.out]; exact hI, (Kp.of_below (pw_below_drewN B1.out _)).trans hK⟩
 ·have HE : Aside0 (writeK st nm s = (st, askE st.down [nm])) := ⟨if_neg h0⟩
  have h1 : (askE st.down [nm] != 0) = true := bne_iff_ne.mpr h0
  clear h0
  go_wp2
  go_ret
  exact ⟨by rw [HE.out]; rfl, by rw [HE.out]; exact ⟨_, _, _, _, H1.out⟩, Kp.of_below B1.out⟩
end
/-! Names -/
theorem bb_le : ∀ {a b : List UInt8}, bytesBefore a b = true → a ≤ b
 | [], b, _ => List.nil_le b
 | x :: r, [], h => by simp [bytesBefore] at h
 | x :: r, y :: s, h => by
  rw [bytesBefore, Bool.or_eq_true, Bool.and_eq_true, decide_eq_true_iff, beq_iff_eq] at h
  rw [List.cons_le_cons_iff]
  rcases h with h | ⟨h1, h2⟩
  ·exact Or.inl h
  ·exact Or.inr ⟨h1, bb_le h2⟩
def namesF (l : Fs) : List ByteArray := l.map (·.1)
theorem strKeys_dOf (l : Fs) : strKeys (dOf l) = (namesF l).map (fun s => s.data.toList) := by
 unfold dOf namesF
 show (l.map dEnt).map (fun p => strOf p.1) = _
 rw [List.map_map, List.map_map]
 rfl
theorem sorted_names {l : Fs} (h : Rises l) {ss : List (List UInt8)} (hp : ss.Perm (strKeys (dOf l))) : ss.mergeSort (fun x y => decide (x ≤ y)) = (namesF l).map (fun s => s.data.toList) := by
 rw [strKeys_dOf] at hp
 have h1 := mergeSort_of_perm hp
 refine h1.trans (List.mergeSort_of_pairwise ?_)
 rw [List.pairwise_map]
 unfold namesF
 rw [List.pairwise_map]
 exact h.imp (fun hab => decide_eq_true (bb_le hab))
theorem names_cells (l : List ByteArray) : (l.map (fun s => s.data.toList)).map encStr = encs Value.string l := by
 unfold encs
 rw [List.map_map]
 refine List.map_congr_left (fun s _ => ?_)
 simp [encStr]
theorem names_calls {w : World} {d : Nat} {ok : Nat → Prop} {st : DK} (h : IsD w d ok st) (hd : st.down = false) (hr : Rises st.now) (hl : st.now.length * 16 ≤ 140737488355328) :
  Calls Tryz.prog 27 #[.pointer (some ⟨d, 0, none⟩)] w fun e w' => ∃ v, e = .returned v ∧ Kd.string.R 9 w' w.heap.size (fun k => w.heap.size ≤ k) v (namesF st.now) ∧ Below w.heap.size w w' := by
 have hu := Tryz.underlying54
 obtain ⟨bs, bn, vw, vf, h⟩ := h
 have H := Aside0.mk h
 have HR := Aside0.mk hr
 have HL := Aside0.mk hl
 have hc1 := h.c1
 have hc4 : w.cell? ⟨d, 4, none⟩ = some (.bool false) := by rw [h.c4, hd]
 clear h hd hr hl
 go_enter Tryz.func27, Tryz.ntmps27
 go_wp2_with (fail)
 refine (callsIn_wide.1 (lay_maps_Keys (some bn) w)).mono ?_
 rintro e w1 ⟨rfl, rfl⟩
 go_wp2_with (fail)
 refine (callsIn_wide.1 (lay_Sorted_keys bn st.now.length (dOf st.now) _ w H.out.now (by rw [dOf_size]; have := HL.out; simp only [maxLen]; omega) (by rw [dOf_size]; exact HL.out))).mono ?_
 rintro e w2 ⟨v, ss, rfl, hS, hrow, _, hb⟩
 have hso := sorted_names HR.out hS
 have hlen : ss.length = (namesF st.now).length := by rw [hS.length_eq, strKeys_dOf, List.length_map]
 rw [hso, names_cells, hlen] at hrow
 have HB := Aside0.mk hb
 have HW := Aside0.mk hrow
 clear hb hrow hS hso hlen
 go_wp2
 go_ret
 have hsz : w.heap.size ≤ (w.alloc (.cells #[.map (some bn)] 50 (0, 0))).heap.size := (below_alloc (Below.refl w.heap.size w) _).size
 have hrow := ownsRow_base_a HW.out hsz
 exact ⟨_, rfl, Kd.R_of_own hrow (fun k hk => own_base hrow k hk), (below_alloc (Below.refl _ w) _).trans (HB.out.mono hsz)⟩
end Go.Proofs.YtdeakccaecphlaaGreatDoor.Q
namespace Go.Proofs.YtdeakccaecphlaaGreatDoor.Q
open Go.Maps Go.WideShapes Go.WideMaps Go.RowKit Go.Proofs.YtdeakccaecphlaaGreatDoorW.PrintWords Go.Proofs.YtdeakccaecphlaaGreatDoorW.PrintLast Go.Proofs.YtdeakccaecphlaaGreatDoorW.PrintMore
set_option linter.unusedVariables false
set_option linter.unusedSimpArgs false
set_option maxHeartbeats 10000000
set_option maxRecDepth 100000
theorem changeK_none {st : DK} {c : Chg} (h : hitI st = none) : changeK st c = (addK st c, 0) := by unfold changeK; rw [h]
/-! what changes keep -/
theorem ltN_total {a b : ByteArray} (h : a ≠ b) : ltN a b = true ∨ ltN b a = true := WideAt.bytes_total _ _ (fun e => h (ba_inj e))
theorem insF_rises {x : ByteArray × ByteArray} : ∀ {l : Fs}, Rises l → (∀ p ∈ l, p.1 ≠ x.1) → Rises (insF x l)
 | [], _, _ => List.pairwise_singleton _ _
 | y :: r, h, hn => by
  obtain ⟨h1, h2⟩ := List.pairwise_cons.1 h
  rw [insF]
  split
  ·rename_i hlt
   refine List.pairwise_cons.2 ⟨fun p hp => ?_, h⟩
   rcases List.mem_cons.1 hp with rfl | hp
   ·exact hlt
   ·exact ltN_trans hlt (h1 p hp)
  ·rename_i hlt
   have hyx : ltN y.1 x.1 = true := (ltN_total (hn y List.mem_cons_self)).resolve_right hlt
   refine List.pairwise_cons.2 ⟨fun p hp => ?_, insF_rises h2 (fun p hp => hn p (List.mem_cons_of_mem _ hp))⟩
   rcases mem_insF.1 hp with rfl | hp
   ·exact hyx
   ·exact h1 p hp
theorem mem_delF {l : Fs} {n : ByteArray} {p : ByteArray × ByteArray} : p ∈ delF l n ↔ p ∈ l ∧ p.1 ≠ n := by
 unfold delF
 rw [List.mem_filter, Bool.not_eq_true', ← Bool.not_eq_true, sameN_iff]
theorem mem_putF {l : Fs} {n s : ByteArray} {p : ByteArray × ByteArray} : p ∈ putF l n s ↔ p = (n, s) ∨ (p ∈ l ∧ p.1 ≠ n) := by
 unfold putF
 rw [mem_insF, mem_delF]
theorem delF_rises {l : Fs} (n : ByteArray) (h : Rises l) : Rises (delF l n) := List.Pairwise.filter _ h
theorem putF_rises {l : Fs} (n s : ByteArray) (h : Rises l) : Rises (putF l n s) := insF_rises (delF_rises n h) (fun p hp => (mem_delF.1 hp).2)
theorem doC_rises {l : Fs} (c : Chg) (h : Rises l) : Rises (doC l c) := by
 unfold doC
 repeat' split
 ·exact putF_rises _ _ h
 ·exact putF_rises _ _ h
 ·exact delF_rises _ (putF_rises _ _ h)
 ·exact delF_rises _ h
 ·exact putF_rises _ _ h
def Named (l : Fs) : Prop := ∀ p ∈ l, nameS p.1 = true
theorem putF_named {l : Fs} {n s : ByteArray} (h : Named l) (hn : nameS n = true) : Named (putF l n s) := by
 intro p hp
 rcases mem_putF.1 hp with rfl | ⟨hp, _⟩
 ·exact hn
 ·exact h p hp
theorem delF_named {l : Fs} {n : ByteArray} (h : Named l) : Named (delF l n) := fun p hp => h p (mem_delF.1 hp).1
/-- the names that a change bears -/
structure NmC (c : Chg) : Prop where
 name : nameS c.name = true
 dest : c.kind = 2 → nameS c.dest = true ∧ c.name ≠ c.dest
theorem doC_named {l : Fs} {c : Chg} (h : Named l) (hc : NmC c) : Named (doC l c) := by
 unfold doC
 split
 ·exact putF_named h hc.name
 split
 ·exact putF_named h hc.name
 split
 ·rename_i hk; exact delF_named (putF_named h (hc.dest hk).1)
 split
 ·exact delF_named h
 ·exact putF_named h hc.name
theorem doC_len (l : Fs) (c : Chg) : (doC l c).length ≤ l.length + 1 := by
 unfold doC
 repeat' split
 ·exact putF_len _ _ _
 ·exact putF_len _ _ _
 ·exact Nat.le_trans (delF_len _ _) (putF_len _ _ _)
 ·exact Nat.le_trans (delF_len _ _) (Nat.le_succ _)
 ·exact putF_len _ _ _
theorem delF_insF {x : ByteArray × ByteArray} {n : ByteArray} (h : x.1 ≠ n) : ∀ l : Fs, totF (delF (insF x l) n) = x.2.size + totF (delF l n) := by
 have hx : sameN x.1 n = false := by rw [← Bool.not_eq_true, sameN_iff]; exact h
 intro l
 induction l with
 | nil => simp [insF, delF, totF, hx]
 | cons y r ih =>
  rw [insF]
  split
  ·simp [delF, totF, hx]
  ·cases hy : sameN y.1 n with
   | true =>
    rw [show delF (y :: insF x r) n = delF (insF x r) n by simp [delF, hy], show delF (y :: r) n = delF r n by simp [delF, hy]]
    exact ih
   | false =>
    rw [show delF (y :: insF x r) n = y :: delF (insF x r) n by simp [delF, hy], show delF (y :: r) n = y :: delF r n by simp [delF, hy]]
    unfold totF at ih ⊢
    simp only [List.map_cons, List.sum_cons]
    omega
theorem delF_comm (l : Fs) (a b : ByteArray) : delF (delF l a) b = delF (delF l b) a := by
 unfold delF
 rw [List.filter_filter, List.filter_filter]
 congr 1
 funext p
 exact Bool.and_comm _ _
theorem doC_tot (l : Fs) (c : Chg) (hc : c.kind = 2 → c.name ≠ c.dest) : totF (doC l c) ≤ totF l + c.s.size ∧ (2 ≤ c.kind → totF (doC l c) ≤ totF l) ∧ (c.kind = 1 → totF (doC l c) + (getF l c.name).size ≤ totF l + c.s.size) := by
 have hg := getF_tot l c.name
 unfold doC
 split
 ·have := putF_tot l c.name (getF l c.name ++ c.s)
  rw [ByteArray.size_append] at this
  refine ⟨by omega, fun e => by omega, fun e => by omega⟩
 split
 ·have := putF_tot l c.name c.s
  exact ⟨by omega, fun e => by omega, fun _ => this⟩
 split
 ·rename_i hk
  have h1 : totF (delF (putF l c.dest (getF l c.name)) c.name) ≤ totF l := by
   unfold putF
   rw [delF_insF (x := (c.dest, getF l c.name)) (fun e => hc hk e.symm), delF_comm]
   have := delF_tot (delF l c.name) c.dest
   simp only
   omega
  exact ⟨by omega, fun _ => h1, fun e => by omega⟩
 split
 ·have := delF_tot l c.name
  exact ⟨by omega, fun _ => this, fun e => by omega⟩
 ·have h1 := putF_tot l c.name ((getF l c.name).extract 0 c.long.toNat)
  rw [ByteArray.size_extract] at h1
  exact ⟨by omega, fun _ => by omega, fun e => by omega⟩
/-! a disk that is up, without falls, behind at most i changes -/
abbrev BM : Nat := 140737488351232
structure Good (i : Nat) (st : DK) : Prop where
 now : st.now = st.wait.foldl doC st.sure
 val : Valid st.sure st.wait
 ris : Rises st.now
 named : Named st.now
 tot : totF st.now ≤ i * BM
 len : st.now.length ≤ i
 wl : st.wait.length ≤ i
 cnt : 0 ≤ st.count ∧ st.count ≤ i
 fal : st.falls = []
 up : st.down = false
theorem Good.mono {i j : Nat} {st : DK} (h : Good i st) (hij : i ≤ j) : Good j st :=
 ⟨h.now, h.val, h.ris, h.named, Nat.le_trans h.tot (Nat.mul_le_mul_right _ hij), Nat.le_trans h.len hij, Nat.le_trans h.wl hij, ⟨h.cnt.1, Int.le_trans h.cnt.2 (by omega)⟩, h.fal, h.up⟩
theorem Good.hit {i : Nat} {st : DK} (h : Good i st) : hitI st = none := by
 unfold hitI
 rw [h.fal]
 rfl
theorem Good.add {i : Nat} {st : DK} (h : Good i st) {c : Chg} (hok : OkC st.now c) (hn : NmC c) (hs : c.s.size ≤ BM) : Good (i + 1) (addK st c) := by
 refine ⟨?_, ?_, doC_rises c h.ris, doC_named h.named hn, ?_, ?_, ?_, ?_, h.fal, h.up⟩
 ·show doC st.now c = (st.wait ++ [c]).foldl doC st.sure
  rw [List.foldl_append, ← h.now]
  rfl
 ·exact Valid.snoc h.val (by show OkC (st.wait.foldl doC st.sure) c; rw [← h.now]; exact hok)
 ·have h1 := (doC_tot st.now c (fun e => (hn.dest e).2)).1
  have h2 := h.tot
  show totF (doC st.now c) ≤ _
  rw [Nat.add_mul]
  omega
 ·have h1 := doC_len st.now c
  have h2 := h.len
  show (doC st.now c).length ≤ _
  omega
 ·show (st.wait ++ [c]).length ≤ _
  rw [List.length_append]
  have := h.wl
  simp only [List.length_cons, List.length_nil]
  omega
 ·have := h.cnt
  show 0 ≤ st.count + 1 ∧ st.count + 1 ≤ _
  omega
theorem Good.can {i : Nat} {st : DK} (h : Good i st) (hi : i ≤ 1000) {c : Chg} (hok : OkC st.now c) : CanC st c := by
 refine ⟨hok, ?_, ?_, ?_, Valid.snoc h.val (by rw [← h.now]; exact hok)⟩
 ·have := h.wl; omega
 ·have := h.cnt; omega
 ·rw [h.fal]; decide
theorem Good.okc {i : Nat} {st : DK} (h : Good i st) (hi : i ≤ 1000) {k : Int} {a b s : ByteArray} {n : Int} (hk : 0 ≤ k ∧ k ≤ 4) (ha : a.size ≤ BM) (hb : b.size ≤ BM) (hs : s.size ≤ BM) (hc : k = 4 → 0 ≤ n ∧ n ≤ ((getF st.now a).size : Int)) : OkC st.now ⟨k, a, b, s, n⟩ := by
 have h1 := h.tot
 have h2 := h.len
 have h3 : i * BM ≤ 1000 * BM := Nat.mul_le_mul_right _ hi
 refine ⟨hk, Nat.le_trans ha (by decide), Nat.le_trans hb (by decide), by omega, ?_, hc⟩
 show totF st.now + s.size ≤ _
 simp only [BM] at *
 omega
theorem Good.small {i : Nat} {st : DK} (h : Good i st) (hi : i ≤ 1000) : totF st.now ≤ 4000000000000000000 := by
 have h1 := h.tot
 have h3 : i * BM ≤ 1000 * BM := Nat.mul_le_mul_right _ hi
 simp only [BM] at *
 omega
theorem good_new : Good 0 newK := ⟨rfl, trivial, List.Pairwise.nil, (fun p hp => by cases hp), Nat.le_refl _, Nat.le_refl _, Nat.le_refl _, ⟨Int.le_refl _, Int.le_refl _⟩, rfl, rfl⟩
theorem Good.sync {i : Nat} {st : DK} (h : Good i st) : Good i (syncK st) ∧ syncE st = 0 := by
 obtain ⟨h1, h2⟩ := syncK_up h.up
 refine ⟨?_, h2⟩
 rw [h1]
 exact ⟨rfl, trivial, h.ris, h.named, h.tot, h.len, Nat.zero_le _, h.cnt, h.fal, h.up⟩
theorem Good.room {i : Nat} {st : DK} (h : Good i st) (n : Int) : Good i { st with room := n } := ⟨h.now, h.val, h.ris, h.named, h.tot, h.len, h.wl, h.cnt, h.fal, h.up⟩
def callK (st : DK) (k : Int) (a b s : ByteArray) (n : Int) : DK × Int :=
 if k = 0 then appendK st a s else if k = 1 then writeK st a s else if k = 2 then moveK st a b else if k = 3 then removeK st a else cutK st a n
/-- A call leaves the disk as it was, and tells why; or it makes its change. -/
theorem call_cases {i : Nat} {st : DK} (h : Good i st) (hi : i ≤ 1000) {k : Int} {a b s : ByteArray} {n : Int} (hk : 0 ≤ k ∧ k ≤ 4) (ha : a.size ≤ BM) (hb : b.size ≤ BM) (hs : s.size ≤ BM) :
  (∃ e, e ≠ 0 ∧ callK st k a b s n = (st, e)) ∨ ∃ c : Chg, c.kind = k ∧ c.name = a ∧ (k ≤ 1 → c.s = s) ∧ callK st k a b s n = (addK st c, 0) ∧ OkC st.now c ∧ NmC c ∧ c.s.size ≤ BM ∧ (k = 0 → roomE st 0 s.size = false) ∧ (k = 1 → roomE st (getF st.now a).size s.size = false) := by
 have hz : (⟨#[]⟩ : ByteArray).size ≤ BM := by decide
 have hx : (22 : Int) ≠ 0 := by decide
 unfold callK
 by_cases h0 : k = 0
 ·subst h0
  rw [if_pos rfl]
  unfold appendK
  by_cases h1 : askE st.down [a] = 0
  ·rw [if_pos h1]
   cases h2 : roomE st 0 s.size with
   | true => rw [if_pos rfl]; exact Or.inl ⟨22, by decide, rfl⟩
   | false =>
    rw [if_neg (by simp), changeK_none h.hit]
    exact Or.inr ⟨_, rfl, rfl, fun _ => rfl, rfl, h.okc hi (by decide) ha hz hs (fun e => absurd e (by decide)), ⟨(askE_one h1).2, (fun e => absurd (show (0 : Int) = 2 from e) (by decide))⟩, hs, fun _ => rfl, (fun e => absurd e (by decide))⟩
  ·rw [if_neg h1]; exact Or.inl ⟨_, h1, rfl⟩
 rw [if_neg h0]
 by_cases h0' : k = 1
 ·subst h0'
  rw [if_pos rfl]
  unfold writeK
  by_cases h1 : askE st.down [a] = 0
  ·rw [if_pos h1]
   cases h2 : roomE st (getF st.now a).size s.size with
   | true => rw [if_pos rfl]; exact Or.inl ⟨22, by decide, rfl⟩
   | false =>
    rw [if_neg (by simp), changeK_none h.hit]
    exact Or.inr ⟨_, rfl, rfl, fun _ => rfl, rfl, h.okc hi (by decide) ha hz hs (fun e => absurd e (by decide)), ⟨(askE_one h1).2, (fun e => absurd (show (1 : Int) = 2 from e) (by decide))⟩, hs, (fun e => absurd e (by decide)), fun _ => rfl⟩
  ·rw [if_neg h1]; exact Or.inl ⟨_, h1, rfl⟩
 rw [if_neg h0']
 by_cases h2 : k = 2
 ·subst h2
  rw [if_pos rfl]
  unfold moveK
  by_cases h1 : askE st.down [a, b] = 0
  ·rw [if_pos h1]
   by_cases h3 : hasF st.now a = true
   ·rw [if_pos h3]
    by_cases h4 : a = b
    ·rw [if_pos h4]; exact Or.inl ⟨1, by decide, rfl⟩
    ·rw [if_neg h4, changeK_none h.hit]
     exact Or.inr ⟨_, rfl, rfl, fun e => absurd e (by decide), rfl, h.okc hi (by decide) ha hb hz (fun e => absurd e (by decide)), ⟨(askE_two h1).2.1, fun _ => ⟨(askE_two h1).2.2, h4⟩⟩, hz, (fun e => absurd e (by decide)), (fun e => absurd e (by decide))⟩
   ·rw [if_neg h3]; exact Or.inl ⟨4, by decide, rfl⟩
  ·rw [if_neg h1]; exact Or.inl ⟨_, h1, rfl⟩
 rw [if_neg h2]
 by_cases h3 : k = 3
 ·subst h3
  rw [if_pos rfl]
  unfold removeK
  by_cases h1 : askE st.down [a] = 0
  ·rw [if_pos h1]
   by_cases h3 : hasF st.now a = true
   ·rw [if_pos h3, changeK_none h.hit]
    exact Or.inr ⟨_, rfl, rfl, fun e => absurd e (by decide), rfl, h.okc hi (by decide) ha hz hz (fun e => absurd e (by decide)), ⟨(askE_one h1).2, (fun e => absurd (show (3 : Int) = 2 from e) (by decide))⟩, hz, (fun e => absurd e (by decide)), (fun e => absurd e (by decide))⟩
   ·rw [if_neg h3]; exact Or.inl ⟨4, by decide, rfl⟩
  ·rw [if_neg h1]; exact Or.inl ⟨_, h1, rfl⟩
 rw [if_neg h3]
 obtain rfl : k = 4 := by omega
 unfold cutK
 by_cases h1 : askE st.down [a] = 0
 ·rw [if_pos h1]
  by_cases h3 : hasF st.now a = true
  ·rw [if_pos h3]
   by_cases h4 : 0 ≤ n ∧ n ≤ ((getF st.now a).size : Int)
   ·rw [if_pos h4, changeK_none h.hit]
    exact Or.inr ⟨_, rfl, rfl, fun e => absurd e (by decide), rfl, h.okc hi (by decide) ha hz hz (fun _ => h4), ⟨(askE_one h1).2, (fun e => absurd (show (4 : Int) = 2 from e) (by decide))⟩, hz, (fun e => absurd e (by decide)), (fun e => absurd e (by decide))⟩
   ·rw [if_neg h4]; exact Or.inl ⟨1, by decide, rfl⟩
  ·rw [if_neg h3]; exact Or.inl ⟨4, by decide, rfl⟩
 ·rw [if_neg h1]; exact Or.inl ⟨_, h1, rfl⟩
theorem Good.call {i : Nat} {st : DK} (h : Good i st) (hi : i ≤ 1000) {k : Int} {a b s : ByteArray} {n : Int} (hk : 0 ≤ k ∧ k ≤ 4) (ha : a.size ≤ BM) (hb : b.size ≤ BM) (hs : s.size ≤ BM) : Good (i + 1) (callK st k a b s n).1 := by
 rcases call_cases h hi (n := n) hk ha hb hs with ⟨e, _, he⟩ | ⟨c, _, _, _, hc, h1, h2, h3, _⟩
 ·rw [he]; exact h.mono (Nat.le_succ _)
 ·rw [hc]; exact h.add h1 h2 h3
end Go.Proofs.YtdeakccaecphlaaGreatDoor.Q
