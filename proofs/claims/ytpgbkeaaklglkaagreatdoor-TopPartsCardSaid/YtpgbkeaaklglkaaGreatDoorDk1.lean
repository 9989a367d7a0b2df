
/- The disk's inner calls. -/
import Derived.Outline
import Derived.StillTailTactics
import Derived.Deep.AppendLies
import Derived.Test.YtpgbkeaaklglkaaGreatDoorDk0
import Derived.Test.YtpgbkeaaklglkaaGreatDoorLay
namespace Go.Proofs.YtpgbkeaaklglkaaGreatDoor.Q
open Go.Maps Go.WideShapes Go.WideMaps Go.RowKit Go.Proofs.YtpgbkeaaklglkaaGreatDoorW.PrintWords Go.Proofs.YtpgbkeaaklglkaaGreatDoorW.PrintLast Go.Proofs.YtpgbkeaaklglkaaGreatDoorW.PrintMore
set_option linter.unusedVariables false
set_option linter.unusedSimpArgs false
set_option maxHeartbeats 10000000
set_option maxRecDepth 100000
structure Halt (p : Prop) : Prop where mk :: (out : p)
/-! slices.Clone, at falls and at changes -/
theorem cfalls_calls (A0 : Option Addr) (c0 : Nat) (l0 : List Fal) (w : World) (hr0 : Kd.C kF w A0 l0.length l0) (hb : l0.length * 24 ≤ 140737488355328) :
  Calls Tryz.prog 85 #[.slice A0 l0.length c0] w fun e w' => ∃ v0_ : Value, e = .returned (v0_) ∧ kF.R 134 w' w.heap.size (fun _ => True) v0_ l0 ∧ Below w.heap.size w w' := by
 have HR := Aside0.mk hr0
 have HL := Aside0.mk hb
 clear hb
 rcases A0 with _ | ad
 ·have h0 : l0.length = 0 := by
   rcases Nat.eq_zero_or_pos l0.length with h | h
   ·exact h
   ·obtain ⟨ad, e, _⟩ := hr0.2.2 h
    cases e
  obtain rfl : l0 = [] := List.eq_nil_of_length_eq_zero h0
  clear hr0 h0
  go_enter Tryz.func85, Tryz.ntmps85
  go_wp2_with ((with_reducible refine gate_dst (N := 4) rfl ?_); refine Halt.out ?_)
  refine ⟨?_⟩
  refine Kd.event_run (v := .bool true) (w1 := w) rfl ?hr ?_
  case hr => first | (go_simp; done) | (go_simp; rfl)
  go_wp2
  go_ret
  exact ⟨_, rfl, Kd.R_nil _ _ _ _ _, Below.refl _ _⟩
 ·clear hr0
  go_enter Tryz.func85, Tryz.ntmps85
  go_wp2_with ((with_reducible refine gate_dst (N := 4) rfl ?_); refine Halt.out ?_)
  refine ⟨?_⟩
  refine Kd.event_run (v := .bool false) (w1 := w) rfl ?hr ?_
  case hr => first | (go_simp; done) | (go_simp; rfl)
  go_wp2_with ((with_reducible refine gate_dst (N := 5) rfl ?_); refine Halt.out ?_)
  refine ⟨?_⟩
  refine Kd.R_lit kF (w0 := w) w.heap.size 134 rfl (N := 5) rfl (xs := []) (inner := []) (ok := fun _ => True) (okp := fun _ => True) ?hq ?hp (fun _ hk => hk) trivial (Below.refl _ _) (Nat.le_refl _) (by simp) ?_
  case hq => first | (go_simp; done) | (go_simp; rfl)
  case hp => exact ⟨by simp, fun j p h => by simp at h⟩
  intro v1 w1 hR hB _ _
  have R1 := Aside0.mk hR
  have B1 := Aside0.mk hB
  clear hR hB
  go_wp2_with ((with_reducible refine gate_dst (N := 7) rfl ?_); refine Halt.out ?_)
  refine ⟨?_⟩
  refine Kd.R_append_rows kF (Rr := kF.K w1) (w0 := w) w.heap.size rfl (.tmp 5) (.tmp 6) 60 134 (.agg #[(.int .i64 0), (.int .i64 0), (.int .i64 0)]) 24 rfl Tryz.underlying60 infoF rfl (by decide) (by decide) v1 [] l0 (some ad) l0.length c0 (fun _ => True) (fun _ => False) ?e1 ?e2 R1.out (Kd.C_below HR.out B1.out) (fun x cs h => kF_KM h) (fun _ h => h.elim) (fun _ _ => trivial) B1.out B1.out.size (by have := HL.out; simp only [List.length_nil]; omega) ?_
  case e1 => rfl
  case e2 => rfl
  intro v2 w2 hR hB _ _
  rw [List.nil_append] at hR
  have R2 := Aside0.mk hR
  have B2 := Aside0.mk hB
  clear hR hB
  go_wp2
  go_ret
  exact ⟨_, rfl, R2.out, B2.out⟩
/-! names -/
theorem Ev.ite {α : Type} {c : Prop} [Decidable c] {f g : Nat → Option α} {r : α} (h1 : c → Ev f r) (h2 : ¬ c → Ev g r) : Ev (fun k => if c then f k else g k) r := by
 by_cases h : c
 ·exact Ev.congr (fun k => if_pos h) (h1 h)
 ·exact Ev.congr (fun k => if_neg h) (h2 h)
def chN (b : Int) : Bool := decide (97 ≤ b ∧ b ≤ 122 ∨ 48 ≤ b ∧ b ≤ 57 ∨ b = 46 ∨ b = 45)
def nameS (s : ByteArray) : Bool := (List.range' 0 s.size).all (fun j => chN (bt s (j : Nat))) && decide (0 < s.size ∧ s.size ≤ 80)
theorem w1n (i : Nat) (h : i < 9223372036854775807) : wrap64 ((i : Int) + 1) = ((i + 1 : Nat) : Int) := by rw [IntWalk.wrap64_in _ (by omega)]; omega
theorem name_go (s : ByteArray) (hs : s.size ≤ 9223372036854775807) : ∀ (d i : Nat), i + d = s.size → Ev (fun k => disk_Name.l0 k s (s.size : Int) (i : Int)) ((List.range' i d).all (fun j => chN (bt s (j : Nat))) && decide (0 < s.size ∧ s.size ≤ 80))
 | 0, i, h => by
  refine Ev.step (f := fun _ => some (decide (0 < s.size ∧ s.size ≤ 80))) (fun k => ?_) ⟨0, fun _ _ => by simp⟩
  rw [disk_Name.l0, if_neg (by omega)]
  by_cases h1 : (s.size : Int) > 0
  ·rw [if_pos h1]
   congr 1
   rw [Bool.eq_iff_iff, decide_eq_true_iff, decide_eq_true_iff]
   omega
  ·rw [if_neg h1]
   congr 1
   rw [eq_comm, decide_eq_false_iff_not]
   omega
 | d + 1, i, h => by
  refine Ev.step (f := fun k => if chN (bt s i) = true then disk_Name.l0 k s (s.size : Int) ((i + 1 : Nat) : Int) else some false) (fun k => ?_) ?_
  ·rw [disk_Name.l0, if_pos (by omega), if_pos (by omega), if_pos (by omega), w1n i (by omega)]
   generalize bt s i = b
   have dot : (if b = 46 then disk_Name.l0 k s (s.size : Int) ((i + 1 : Nat) : Int) else if b = 45 then disk_Name.l0 k s (s.size : Int) ((i + 1 : Nat) : Int) else some false) = if b = 46 ∨ b = 45 then disk_Name.l0 k s (s.size : Int) ((i + 1 : Nat) : Int) else some false := by
    by_cases h1 : b = 46
    ·rw [if_pos h1, if_pos (Or.inl h1)]
    ·by_cases h2 : b = 45
     ·rw [if_neg h1, if_pos h2, if_pos (Or.inr h2)]
     ·rw [if_neg h1, if_neg h2, if_neg (fun e => e.elim h1 h2)]
   rw [dot]
   unfold chN
   by_cases h1 : b < 97
   ·rw [if_pos h1]
    by_cases h2 : b < 48
    ·rw [if_pos h2]
     by_cases h3 : b = 46 ∨ b = 45
     ·rw [if_pos h3, if_pos (by rw [decide_eq_true_iff]; omega)]
     ·rw [if_neg h3, if_neg (by rw [decide_eq_true_iff]; omega)]
    ·rw [if_neg h2]
     by_cases h4 : b > 57
     ·rw [if_pos h4]
      by_cases h3 : b = 46 ∨ b = 45
      ·rw [if_pos h3, if_pos (by rw [decide_eq_true_iff]; omega)]
      ·rw [if_neg h3, if_neg (by rw [decide_eq_true_iff]; omega)]
     ·rw [if_neg h4, if_pos (by rw [decide_eq_true_iff]; omega)]
   ·rw [if_neg h1]
    by_cases h2 : b > 122
    ·rw [if_pos h2]
     by_cases h3 : b < 48
     ·omega
     ·rw [if_neg h3]
      by_cases h4 : b > 57
      ·rw [if_pos h4, if_neg (by omega), if_neg (by rw [decide_eq_true_iff]; omega)]
      ·omega
    ·rw [if_neg h2, if_pos (by rw [decide_eq_true_iff]; omega)]
  ·rw [List.range'_succ, List.all_cons, Bool.and_assoc]
   refine Ev.ite (fun hx => ?_) (fun hx => ?_)
   ·rw [hx, Bool.true_and]
    exact name_go s hs d (i + 1) (by omega)
   ·rw [Bool.not_eq_true] at hx
    rw [hx, Bool.false_and]
    exact Ev.now _
theorem name_calls (s : ByteArray) (hs : s.size ≤ 9223372036854775807) (w : World) : Calls Tryz.prog 58 #[.string s] w fun e w' => e = .returned (.bool (nameS s)) ∧ ∃ n, w' = w.drewN n := by
 obtain ⟨k, hk⟩ := (name_go s hs s.size 0 (by omega)).rounds
 exact (disk_Name.calls k s _ w hk).mono fun e w' ⟨h1, h2⟩ => ⟨h1, h2.out⟩
/-! ask -/
def askE (down : Bool) (names : List ByteArray) : Int := if down = true then 21 else if names.all nameS = true then 0 else 20
theorem drewN_cell (w : World) (n : Nat) (a : Addr) : (w.drewN n).cell? a = w.cell? a := by
 induction n with
 | zero => rfl
 | succ n ih => exact ih
theorem ask_calls (d : Nat) (down : Bool) (A : Option Addr) (c : Nat) (l : List ByteArray) (w : World) (hd : w.cell? ⟨d, 4, none⟩ = some (.bool down)) (hr : Kd.C Kd.string w A l.length l) (hs : ∀ s ∈ l, s.size ≤ 9223372036854775807) :
  Calls Tryz.prog 32 #[.pointer (some ⟨d, 0, none⟩), .slice A l.length c] w fun e w' => e = .returned (.int .i64 (askE down l)) ∧ ∃ n, w' = w.drewN n := by
 have hu := Tryz.underlying62
 cases down with
 | true =>
  have HE : Aside0 (askE true l = 21) := ⟨rfl⟩
  clear hr hs
  go_enter Tryz.func32, Tryz.ntmps32
  go_wp2_with (fail)
  go_ret
  exact ⟨by rw [HE.out]; rfl, 0, rfl⟩
 | false =>
  have HR := Aside0.mk hr
  have HS := Aside0.mk hs
  have HM := Aside0.mk (Kd.C_max hr)
  have HD := Aside0.mk hd
  clear hr hs
  go_enter Tryz.func32, Tryz.ntmps32
  go_wp2_with (fail)
  go_loopg [17] (l.length + 1) (fun kq v17 w' => ∃ (j : Nat), v17 = .int .i64 (j : Int) ∧ Aside0 (j + kq = l.length + 1 ∧ j ≤ l.length) ∧ Aside0 ((l.take j).all nameS = true) ∧ Aside0 (∃ n, w' = w.drewN n))
  case atStart => exact ⟨0, rfl, ⟨by omega, by omega⟩, ⟨rfl⟩, ⟨0, rfl⟩⟩
  case round =>
   obtain ⟨j, rfl, HJ, HN, HW⟩ := hrel
   clear hd
   cases gk with
   | zero => have := HJ.out; omega
   | succ k1 =>
    by_cases hj : j < l.length
    ·have hlt : ((j : Int) < (l.length : Int)) = True := eq_true (by omega)
     obtain ⟨ad, e, h0⟩ := (Kd.reads_of_C (enc := Value.string) (d := ByteArray.empty) HR.out).at_ (j : Int) (by omega) (by omega)
     rw [Int.toNat_natCast] at h0
     obtain ⟨s, hs⟩ : ∃ s, s = rdOf ByteArray.empty l (j : Int) := ⟨_, rfl⟩
     rw [← hs] at h0
     have hmem : s ∈ l := by
      rw [hs]
      show l.getD j _ ∈ l
      rw [List.getD_eq_getElem?_getD, List.getElem?_eq_getElem hj]
      exact List.getElem_mem hj
     have hsz := HS.out s hmem
     have htk : l.take (j + 1) = l.take j ++ [s] := by
      rw [List.take_succ_eq_append_getElem hj, hs]
      congr 2
      show _ = l.getD j _
      rw [List.getD_eq_getElem?_getD, List.getElem?_eq_getElem hj]; rfl
     obtain ⟨n, rfl⟩ := HW.out
     have h1 : (w.drewN n).cell? (ad.add j) = some (.string s) := (drewN_cell w n _).trans h0
     subst e
     have HT := Aside0.mk htk
     have HZ := Aside0.mk hsz
     have HME := Aside0.mk hmem
     clear hs h0 hmem htk hsz HW
     go_wp2_with (fail)
     refine (name_calls s HZ.out _).mono ?_
     rintro e w1 ⟨rfl, m, rfl⟩
     by_cases hn : nameS s = true
     ·have HNS := Aside0.mk hn
      go_wp2_with (fail)
      go_roundg k1
      case measure => have := HJ.out; omega
      case rel => exact ⟨j + 1, by have := HM.out; rw [IntWalk.wrap64_in _ (by omega)]; rfl, ⟨by have := HJ.out; omega, by omega⟩, ⟨by rw [HT.out, List.all_append, HN.out, List.all_cons, HNS.out]; rfl⟩, ⟨n + m, rfl⟩⟩
     ·have hn2 : nameS s = false := Bool.not_eq_true _ ▸ hn
      have HE : Aside0 (askE false l = 20) := ⟨by
       unfold askE
       rw [if_neg (by simp), if_neg]
       intro e
       exact hn (List.all_eq_true.1 e s HME.out)⟩
      clear hn
      go_wp2_with (fail)
      go_ret
      exact ⟨by rw [HE.out]; rfl, n + m, rfl⟩
    ·obtain rfl : j = l.length := by have := HJ.out; omega
     have hlt : ((l.length : Int) < (l.length : Int)) = False := eq_false (by omega)
     have HE : Aside0 (askE false l = 0) := ⟨by
      have := HN.out
      rw [List.take_length] at this
      unfold askE
      rw [if_neg (by simp), if_pos this]⟩
     go_wp2
     go_ret
     exact ⟨by rw [HE.out]; rfl, HW.out⟩
/-! the small methods -/
theorem mclone_calls {w : World} {b : Nat} {l : Fs} (h : OwnF w b l.length l) : Calls Tryz.prog 68 #[.map (some b)] w fun e w' => e = .returned (.map (some w.heap.size)) ∧ OwnF w' w.heap.size l.length l ∧ OwnF w' b l.length l ∧ Below w.heap.size w w' :=
 Go.Proofs.AnyW.maps_Clone_owns lay_mclone 9 (plainElem Tryz.prog 9) b l.length (dOf l) w h
def newK : DK := ⟨[], [], [], 0, false, [], -1⟩
theorem new_calls (w : World) : Calls Tryz.prog 5 #[] w fun e w' => ∃ d, e = .returned (.pointer (some ⟨d, 0, none⟩)) ∧ IsD w' d (fun k => w.heap.size ≤ k) newK ∧ Below w.heap.size w w' := by
 have hmm := @run_makeMap Tryz.prog
 have hu := Tryz.underlying62
 have hum := Tryz.underlying58
 go_enter Tryz.func5, Tryz.ntmps5
 go_wp2
 go_ret
 have b1 : Below w.heap.size w (w.alloc (.map #[] 0)) := (Below.refl _ w).alloc (Nat.le_refl _) _
 have b2 : Below w.heap.size w ((w.alloc (.map #[] 0)).alloc (.map #[] 0)) := b1.alloc (by simp) _
 have e1 : (w.alloc (.map #[] 0)).heap.size = w.heap.size + 1 := by simp
 have e2 : ((w.alloc (.map #[] 0)).alloc (.map #[] 0)).heap.size = w.heap.size + 1 + 1 := by simp
 have m1 : OwnF (w.alloc (.map #[] 0)) w.heap.size 0 [] := World.ownsMap_made w _ _ _
 have m2 : OwnF ((w.alloc (.map #[] 0)).alloc (.map #[] 0)) (w.heap.size + 1) 0 [] := by
  have := World.ownsMap_made (H := Unit) (w.alloc (.map #[] 0)) Tryz.prog 9 (plainElem Tryz.prog 9)
  rw [e1] at this
  exact this
 refine ⟨w.heap.size + 1 + 1, rfl, ⟨w.heap.size, w.heap.size + 1, .slice none 0 0, .slice none 0 0, ?_⟩, ?_⟩
 rotate_left
 ·exact b2.alloc (by rw [e2]; omega) _
 refine ⟨?_, (m1.alloc _).alloc _, m2.alloc _, by omega, by show w.heap.size ≤ w.heap.size + 1 + 1; omega, Nat.le_refl _, Nat.le_succ _, Kd.R_nil _ _ _ _ _, Kd.R_nil _ _ _ _ _⟩
 have := heap_alloc_new ((w.alloc (.map #[] 0)).alloc (.map #[] 0)) (.cells #[.map (some w.heap.size), .map (some (w.heap.size + 1)), .slice none 0 0, .int .i64 0, .bool false, .slice none 0 0, .int .i64 (-1)] 62 (0, 0))
 rw [e2] at this
 exact this
section
variable {w : World} {d : Nat} {ok : Nat → Prop} {st : DK}
theorem down_calls (h : IsD w d ok st) : Calls Tryz.prog 13 #[.pointer (some ⟨d, 0, none⟩)] w fun e w' => e = .returned (.bool st.down) ∧ w' = w := by
 obtain ⟨bs, bn, vw, vf, h⟩ := h
 have hc := h.c4
 have hu := Tryz.underlying62
 clear h
 go_enter Tryz.func13, Tryz.ntmps13
 go_wp2
 go_ret
 exact ⟨rfl, rfl⟩
end
/-! Read, Sync, Names, Used -/
def readE (st : DK) (nm : ByteArray) : Int := if askE st.down [nm] = 0 then (if hasF st.now nm = true then 0 else 4) else askE st.down [nm]
def readS (st : DK) (nm : ByteArray) : ByteArray := if readE st nm = 0 then getF st.now nm else ⟨#[]⟩
section
variable {w : World} {d : Nat} {ok : Nat → Prop} {st : DK}
theorem str1 (w : World) (nm : ByteArray) : Kd.C Kd.string (w.alloc (.cells #[.string nm] 9 (0, 0))) (some ⟨w.heap.size, 0, none⟩) 1 [nm] := by
 refine Kd.C_of_reads (enc := Value.string) (d := ByteArray.empty) ⟨rfl, by decide, fun _ => ⟨⟨w.heap.size, 0, none⟩, rfl, fun i hi => ?_⟩⟩
 obtain rfl : i = 0 := by omega
 exact (blk_cell (heap_alloc_new w _) 0).trans rfl
theorem str2 (w : World) (a b : ByteArray) : Kd.C Kd.string (w.alloc (.cells #[.string a, .string b] 9 (0, 0))) (some ⟨w.heap.size, 0, none⟩) 2 [a, b] := by
 refine Kd.C_of_reads (enc := Value.string) (d := ByteArray.empty) ⟨rfl, by decide, fun _ => ⟨⟨w.heap.size, 0, none⟩, rfl, fun i hi => ?_⟩⟩
 have : i = 0 ∨ i = 1 := by omega
 rcases this with rfl | rfl
 ·exact (blk_cell (heap_alloc_new w _) 0).trans rfl
 ·rw [Addr.add_lit]
  exact (blk_cell (heap_alloc_new w _) 1).trans rfl
theorem read_calls (h : IsD w d ok st) (nm : ByteArray) (hs : nm.size ≤ 9223372036854775807) : Calls Tryz.prog 14 #[.pointer (some ⟨d, 0, none⟩), .string nm] w fun e w' => e = .returned (.tuple #[.string (readS st nm), .int .i64 (readE st nm)]) ∧ Below w.heap.size w w' := by
 obtain ⟨bs, bn, vw, vf, h⟩ := h
 have hu := Tryz.underlying62
 have H := Aside0.mk h
 have HS := Aside0.mk hs
 clear h hs
 go_enter Tryz.func14, Tryz.ntmps14
 go_wp2_with (fail)
 refine (ask_calls d st.down _ 1 [nm] _ ((World.cell?_of_block (Below.heap_alloc w _ d H.out.lt)).trans H.out.c4) (str1 w nm) (fun s hs => by rw [List.mem_singleton] at hs; rw [hs]; exact HS.out)).mono ?_
 rintro e w1 ⟨rfl, n, rfl⟩
 have H1 := Aside0.mk ((H.out.alloc (.cells #[.string nm] 9 (0, 0))).drewN n)
 have B1 : Aside0 (Below w.heap.size w ((w.alloc (.cells #[.string nm] 9 (0, 0))).drewN n)) := ⟨pw_below_drewN (below_alloc (Below.refl _ _) _) n⟩
 by_cases h0 : askE st.down [nm] = 0
 ·rw [h0]
  have hL := lookok_run H1.out.now HS.out
  have hc := H1.out.c1
  cases hh : hasF st.now nm with
  | true =>
   have HE : Aside0 (readE st nm = 0) := ⟨by unfold readE; rw [if_pos h0, if_pos hh]⟩
   rw [hh] at hL
   clear h0 hh
   go_wp2
   go_ret2
   exact ⟨by unfold readS; rw [HE.out]; rfl, B1.out⟩
  | false =>
   have HE : Aside0 (readE st nm = 4) := ⟨by unfold readE; rw [if_pos h0, if_neg (by rw [hh]; simp)]⟩
   rw [hh] at hL
   clear h0 hh
   go_wp2
   go_ret2
   exact ⟨by unfold readS; rw [HE.out]; rfl, B1.out⟩
 ·have HE : Aside0 (readE st nm = askE st.down [nm]) := ⟨by unfold readE; rw [if_neg h0]⟩
  have HE2 : Aside0 (readS st nm = ⟨#[]⟩) := ⟨by unfold readS; rw [HE.out, if_neg h0]⟩
  have h1 : (askE st.down [nm] != 0) = true := bne_iff_ne.mpr h0
  clear h0
  go_wp2
  go_ret2
  exact ⟨by rw [HE.out, HE2.out]; rfl, B1.out⟩
def syncK (st : DK) : DK := if st.down = true then st else { st with sure := st.now, wait := [] }
def syncE (st : DK) : Int := if st.down = true then 21 else 0
theorem syncK_down {st : DK} (h : st.down = true) : syncK st = st ∧ syncE st = 21 := ⟨if_pos h, if_pos h⟩
theorem syncK_up {st : DK} (h : st.down = false) : syncK st = { st with sure := st.now, wait := [] } ∧ syncE st = 0 := ⟨if_neg (by rw [h]; simp), if_neg (by rw [h]; simp)⟩
theorem sync_calls (h : IsD w d ok st) (hnew : ∀ k, w.heap.size ≤ k → ok k) : Calls Tryz.prog 41 #[.pointer (some ⟨d, 0, none⟩)] w fun e w' => e = .returned (.int .i64 (syncE st)) ∧ IsD w' d ok (syncK st) ∧ Kp ok w w' := by
 obtain ⟨bs, bn, vw, vf, h⟩ := h
 have hu := Tryz.underlying62
 have H := Aside0.mk h
 have HN := Aside0.mk hnew
 clear h hnew
 go_enter Tryz.func41, Tryz.ntmps41
 go_wp2_with (fail)
 refine (ask_calls d st.down none 0 [] w H.out.c4 ⟨rfl, by decide, fun h => absurd h (by simp)⟩ (fun s hs => by simp at hs)).mono ?_
 rintro e w1 ⟨rfl, n, rfl⟩
 have H1 := Aside0.mk (H.out.drewN n)
 cases hd : st.down with
 | true =>
  have HD := Aside0.mk (syncK_down hd)
  clear hd
  rw [show askE true [] = 21 from rfl]
  go_wp2
  go_ret
  refine ⟨by rw [HD.out.2]; rfl, ?_, (Kp.refl _ _).drewN n⟩
  rw [HD.out.1]
  exact ⟨bs, bn, vw, vf, H1.out⟩
 | false =>
  have HD := Aside0.mk (syncK_up hd)
  clear hd
  rw [show askE false [] = 0 from rfl]
  have hc := H1.out.c1
  go_wp2_with (fail)
  refine (mclone_calls H1.out.now).mono ?_
  rintro e w2 ⟨rfl, hO, _, hb⟩
  have H2 := Aside0.mk (H1.out.below hb)
  have hsz : (w.drewN n).heap.size = w.heap.size := by simp
  rw [hsz] at hO
  have O2 := Aside0.mk hO
  have B2 := Aside0.mk hb
  have NE : Aside0 (w.heap.size ≠ bn) := ⟨by have := H.out.now.lt; omega⟩
  have c0 := H2.out.c0
  have c2 := H2.out.c2
  have z0 := H2.out.fz 0
  have z2 := H2.out.fz 2
  clear hO hb hc
  go_wp2_with (fail)
  go_ret
  have h := H2.out
  have h1 := h.set (st' := { st with sure := st.now }) 0 (.map (some w.heap.size)) (blk_put (cs := #[.map (some bs), .map (some bn), vw, .int .i64 st.count, .bool st.down, vf, .int .i64 st.room]) h.blk 0 _ rfl) O2.out h.now NE.out (HN.out _ (Nat.le_refl _)) h.okn h.wait h.falls
  have h2 := h1.set (st' := { st with sure := st.now, wait := [] }) (vw' := .slice none 0 0) 2 (.slice none 0 0) (blk_put (cs := #[.map (some w.heap.size), .map (some bn), vw, .int .i64 st.count, .bool st.down, vf, .int .i64 st.room]) h1.blk 2 _ rfl) h1.sure h1.now NE.out h1.oks h1.okn (Kd.R_nil _ _ _ _ _) h1.falls
  refine ⟨by rw [HD.out.2]; rfl, ?_, ((((Kp.refl _ _).drewN n).trans (Kp.of_below B2.out)).set h.okd _).set h.okd _⟩
  rw [HD.out.1]
  exact ⟨_, bn, _, vf, h2⟩
end
/-! Used -/
theorem keyOf_str_inv {key : Value} {kl : Lit} (h : keyOf Tryz.prog 9 key = some kl) : ∃ s : ByteArray, key = .string s ∧ kl = kn s ∧ s.size ≤ 9223372036854775807 := by
 cases key <;> simp [keyOf, Tryz.underlying9, mapKey] at h
 obtain ⟨h1, rfl⟩ := h
 exact ⟨_, rfl, rfl, h1⟩
def rem (left : Lit → Bool) (l : Fs) : Nat := ((l.filter fun p => left (kn p.1)).map (·.2.size)).sum
theorem rem_le (left : Lit → Bool) (l : Fs) : rem left l ≤ totF l := by
 unfold rem totF
 induction l with
 | nil => simp
 | cons p l ih =>
  rw [List.filter_cons]
  split
  ·simp only [List.map_cons, List.sum_cons]; omega
  ·simp only [List.map_cons, List.sum_cons]; omega
theorem rem_all {l : Fs} : rem (Maps.has (dOf l)) l = totF l := by
 unfold rem totF
 rw [List.filter_eq_self.2]
 intro p hp
 rw [dOf_has, hasF_iff]
 exact ⟨p, hp, rfl⟩
theorem rem_none {left : Lit → Bool} (h : ∀ kl, left kl = false) (l : Fs) : rem left l = 0 := by
 unfold rem
 rw [List.filter_eq_nil_iff.2 (fun p _ => by rw [h]; simp)]
 rfl
def Dist (l : Fs) : Prop := l.Pairwise fun p q => p.1 ≠ q.1
theorem rem_step {left : Lit → Bool} : ∀ {l : Fs}, Dist l → ∀ {p : ByteArray × ByteArray}, p ∈ l → left (kn p.1) = true → rem left l = p.2.size + rem (fun z => left z && !z.sameKey (kn p.1)) l
 | [], _, p, hp, _ => by cases hp
 | q :: l, hd, p, hp, hl => by
  obtain ⟨h1, h2⟩ := List.pairwise_cons.1 hd
  unfold rem
  rw [List.filter_cons, List.filter_cons]
  rcases List.mem_cons.1 hp with rfl | hp
  ·have e : (fun z => left z && !z.sameKey (kn p.1)) (kn p.1) = false := by simp only [kn_same, sameN_iff.2 rfl]; simp
   rw [if_pos hl, if_neg (by rw [e]; simp), List.map_cons, List.sum_cons]
   congr 3
   refine List.filter_congr (fun q hq => ?_)
   have : sameN q.1 p.1 = false := by rw [← Bool.not_eq_true, sameN_iff]; exact fun e => h1 q hq e.symm
   show left (kn q.1) = (left (kn q.1) && !(kn q.1).sameKey (kn p.1))
   rw [kn_same, this]; simp
  ·have hne := h1 p hp
   have e : (fun z => left z && !z.sameKey (kn p.1)) (kn q.1) = left (kn q.1) := by
    have : sameN q.1 p.1 = false := by rw [← Bool.not_eq_true, sameN_iff]; exact hne
    simp only [kn_same, this]; simp
   have ih := rem_step h2 hp hl
   unfold rem at ih
   rw [e]
   by_cases hq : left (kn q.1) = true
   ·rw [if_pos hq, if_pos hq, List.map_cons, List.sum_cons, List.map_cons, List.sum_cons, ih]; omega
   ·rw [if_neg hq, if_neg hq, ih]
theorem OwnF.dist {w : World} {b n : Nat} {l : Fs} (h : OwnF w b n l) : Dist l := by
 obtain ⟨es, h1, h2, _⟩ := h.entries kstr
 unfold dOf at h1
 injection h1 with h1
 subst h1
 unfold Dist
 rw [List.pairwise_map] at h2
 exact h2.imp (fun h e => h (by rw [dEnt, dEnt, e]))
theorem has_mem {l : Fs} {s : ByteArray} {c : ByteArray} (hat : ∀ zd, (dOf l).atKey (kn s) zd = .lit (.string c.data.toList)) (hd : Dist l) : (s, c) ∈ l := by
 have h1 : hasF l s = true := by rw [← dOf_has]; exact Maps.has_true_of_atKey hat
 obtain ⟨p, hp, e⟩ := hasF_iff.1 h1
 have h2 := hat (.lit (.string []))
 rw [dOf_at] at h2
 simp only [DataW.lit.injEq, Lit.string.injEq] at h2
 have h3 := ba_inj h2
 have : ∀ {l : Fs}, Dist l → ∀ {p : ByteArray × ByteArray}, p ∈ l → getF l p.1 = p.2 := by
  intro l
  induction l with
  | nil => intro _ p hp; cases hp
  | cons q l ih =>
   intro hd p hp
   obtain ⟨g1, g2⟩ := List.pairwise_cons.1 hd
   unfold getF
   rw [List.find?_cons]
   rcases List.mem_cons.1 hp with rfl | hp
   ·rw [sameN_iff.2 rfl]; rfl
   ·have : sameN q.1 p.1 = false := by rw [← Bool.not_eq_true, sameN_iff]; exact g1 p hp
    rw [this]
    exact ih g2 hp
 have h4 := this hd hp
 rw [e, h3] at h4
 obtain ⟨a, b⟩ := p
 simp only at e h4
 rw [← e, h4]
 exact hp
def usedS (st : DK) : Int := if st.down = true then 0 else (totF st.now : Int)
theorem used_up {st : DK} (h : st.down = false) : usedS st = (totF st.now : Int) := if_neg (by rw [h]; simp)
theorem used_calls {w : World} {d : Nat} {ok : Nat → Prop} {st : DK} (h : IsD w d ok st) (ht : totF st.now ≤ 9000000000000000000) : Calls Tryz.prog 69 #[.pointer (some ⟨d, 0, none⟩)] w fun e w' => e = .returned (.int .i64 (usedS st)) ∧ Below w.heap.size w w' := by
 obtain ⟨bs, bn, vw, vf, h⟩ := h
 have hu := Tryz.underlying62
 cases hd : st.down with
 | true =>
  have HD : Aside0 (usedS st = 0) := ⟨if_pos hd⟩
  have hc : w.cell? ⟨d, 4, none⟩ = some (.bool true) := by rw [h.c4, hd]
  clear h hd ht
  go_enter Tryz.func69, Tryz.ntmps69
  go_wp2
  go_ret
  exact ⟨by rw [HD.out]; rfl, Below.refl _ _⟩
 | false =>
  have HD := Aside0.mk (used_up hd)
  have hc : w.cell? ⟨d, 4, none⟩ = some (.bool false) := by rw [h.c4, hd]
  have hc1 := h.c1
  have hown := h.now
  have HDI := Aside0.mk h.now.dist
  have HT := Aside0.mk ht
  clear h hd ht
  go_enter Tryz.func69, Tryz.ntmps69
  go_wp2_with (first
   | (at_range; refine wpList_range_own _ rfl _ 58 rfl 9 9 kstr Tryz.underlying58 _ bn st.now.length _ rfl hown ?_; intro w0 hrg0 hg0 hs0)
   | go_in)
  go_frame
  have HO := Aside0.mk hown
  clear hown hc hc1
  go_loopw [3] (fun v3 wr => ∃ (left : Lit → Bool) (cnt : Nat), wr.ranges Tryz.prog 9 (plainElem Tryz.prog 9) bn w.heap.size st.now.length (dOf st.now) left cnt ∧ v3 = .int .i64 ((totF st.now : Int) - (rem left st.now : Int)) ∧ w.grownBy wr none)
   (fun _ wr => wr.rangeLeft bn w.heap.size)
  case atStart => exact ⟨_, _, hrg0, by rw [rem_all, Int.sub_self], hg0⟩
  case round =>
   obtain ⟨left, cnt, hrg, rfl, hgw⟩ := hrel
   have HGW := Aside0.mk hgw
   clear hgw hg0 hs0 hrg0
   go_wp2_with (first
    | (at_next; refine wpList_next_ranges _ rfl _ rfl 9 kstr (plainElem Tryz.prog 9) Value.string Value.string (fun key kl hk => by obtain ⟨x, hx, _⟩ := keyOf_str_inv hk; exact ⟨x, hx⟩) (fun v y hv => by obtain ⟨c, rfl, _⟩ := plainElem_string_inv Tryz.underlying9 hv; exact ⟨c, rfl⟩) bn w.heap.size st.now.length _ _ _ rfl hrg ?_ ?_)
    | go_in)
   ·intro _ hl0
    have HL := Aside0.mk (rem_none hl0 st.now)
    clear hl0
    go_wp2
    go_ret
    exact ⟨by rw [HD.out, HL.out]; simp, ⟨HGW.out.os, HGW.out.tape, HGW.out.output, HGW.out.size, fun k hk => HGW.out.block k hk (by simp)⟩⟩
   ·intro x c kl y1 y2 w1 cnt1 hkey hlx hv hat hrg1 hlt hg1 hs1 hen
    obtain ⟨x', ex, rfl, hwx⟩ := keyOf_str_inv hkey
    cases ex
    obtain ⟨c', ec, hz, hwc⟩ := plainElem_string_inv Tryz.underlying9 hv
    cases ec
    simp only [Prod.mk.injEq] at hz
    obtain ⟨rfl, rfl⟩ := hz
    have hmem := has_mem hat HDI.out
    have hst := rem_step HDI.out hmem hlx
    have hle := rem_le left st.now
    have HGW1 := Aside0.mk (HGW.out.andThen hg1 (fun j hj => by cases hj; exact Or.inl (Nat.le_refl _)))
    have HRG := Aside0.mk hrg
    have HRG1 := Aside0.mk hrg1
    have HLT := Aside0.mk hlt
    have HST := Aside0.mk hst
    have hT := HT.out
    have b1 : (0 : Int) ≤ (totF st.now : Int) - (rem left st.now : Int) := by omega
    have b2 : (totF st.now : Int) - (rem left st.now : Int) + (c.size : Int) ≤ 9000000000000000000 := by
     simp only at hst; omega
    clear hg1 hs1 hmem hat hv hkey hlx hrg1 hrg hlt hst HGW hwx hwc
    go_wp2
    go_roundw
    case rel => exact ⟨_, cnt1, HRG1.out, by have := HST.out; simp only at this; congr 1; omega, HGW1.out⟩
    case measure => rw [HRG1.out.left_eq, HRG.out.left_eq]; exact HLT.out
/-! Fail -/
def clampK (keep : Int) (n : Nat) : Nat := (min (max keep 0) (n : Int)).toNat
def tornC (c : Chg) (torn : Int) : Chg := { c with s := c.s.extract 0 (min torn (c.s.size : Int)).toNat }
def failF (st : DK) (keep torn : Int) : Fs :=
 let l := (st.wait.take (clampK keep st.wait.length)).foldl doC st.sure
 match st.wait[clampK keep st.wait.length]? with
 | some c => if 0 < torn ∧ (c.kind = 0 ∨ c.kind = 1) then doC l (tornC c torn) else l
 | none => l
def failK (st : DK) (keep torn : Int) : DK := if st.down = true then st else { st with sure := failF st keep torn, now := failF st keep torn, wait := [], down := true }
/-- what waits may be done, one change behind the other -/
def Valid : Fs → List Chg → Prop
 | _, [] => True
 | l, c :: r => OkC l c ∧ Valid (doC l c) r
theorem Valid.take : ∀ {ws : List Chg} {l : Fs} (k : Nat), Valid l ws → Valid l (ws.take k)
 | [], _, k, _ => by rw [List.take_nil]; trivial
 | c :: r, l, 0, _ => trivial
 | c :: r, l, k + 1, h => ⟨h.1, Valid.take k h.2⟩
theorem Valid.at : ∀ {ws : List Chg} {l : Fs} {k : Nat} {c : Chg}, Valid l ws → ws[k]? = some c → OkC ((ws.take k).foldl doC l) c
 | [], _, k, c, _, e => by simp at e
 | a :: r, l, 0, c, h, e => by
  simp at e
  subst e
  exact h.1
 | a :: r, l, k + 1, c, h, e => Valid.at (ws := r) h.2 (by simpa using e)
theorem Valid.snoc : ∀ {ws : List Chg} {l : Fs} {c : Chg}, Valid l ws → OkC (ws.foldl doC l) c → Valid l (ws ++ [c])
 | [], _, _, _, h => ⟨h, trivial⟩
 | a :: r, l, c, h, hc => ⟨h.1, Valid.snoc h.2 hc⟩
theorem foldl_take {α β : Type} (f : β → α → β) (b : β) (l : List α) (j : Nat) (x : α) (h : l[j]? = some x) : (l.take (j + 1)).foldl f b = f ((l.take j).foldl f b) x := by
 have hj : j < l.length := (List.getElem?_eq_some_iff.1 h).1
 have e : l[j] = x := (List.getElem?_eq_some_iff.1 h).2
 rw [List.take_succ_eq_append_getElem hj, List.foldl_append, e]
 rfl
theorem okC_torn {l : Fs} {c : Chg} {torn : Int} (h : OkC l c) (hk : c.kind = 0 ∨ c.kind = 1) : OkC l (tornC c torn) := by
 have h1 := h.tot
 refine ⟨h.kind, h.name, h.dest, h.len, ?_, fun e => ?_⟩
 ·unfold tornC
  simp only [ByteArray.size_extract]
  omega
 ·have : c.kind = 4 := e
  omega
theorem failF_torn {st : DK} {keep torn : Int} {n : Nat} {c : Chg} (hn : n = clampK keep st.wait.length) (hc : st.wait[n]? = some c) (ht : 0 < torn) (hk : c.kind = 0 ∨ c.kind = 1) : failF st keep torn = doC ((st.wait.take n).foldl doC st.sure) (tornC c torn) := by
 unfold failF
 simp only [← hn, hc]
 rw [if_pos ⟨ht, hk⟩]
theorem failF_other {st : DK} {keep torn : Int} {n : Nat} {c : Chg} (hn : n = clampK keep st.wait.length) (hc : st.wait[n]? = some c) (h : ¬ (0 < torn ∧ (c.kind = 0 ∨ c.kind = 1))) : failF st keep torn = (st.wait.take n).foldl doC st.sure := by
 unfold failF
 simp only [← hn, hc]
 rw [if_neg h]
theorem failF_none {st : DK} {keep torn : Int} {n : Nat} (hn : n = clampK keep st.wait.length) (h : st.wait.length ≤ n ∨ ¬ 0 < torn) : failF st keep torn = (st.wait.take n).foldl doC st.sure := by
 by_cases hl : n < st.wait.length
 ·exact failF_other hn (List.getElem?_eq_getElem hl) (fun e => h.elim (fun h => by omega) (fun h => h e.1))
 ·unfold failF
  simp only [← hn, List.getElem?_eq_none (show st.wait.length ≤ n by omega)]
/-! what a change makes of a disk -/
def addK (st : DK) (c : Chg) : DK := { st with count := st.count + 1, wait := st.wait ++ [c], now := doC st.now c }
def hitI (st : DK) : Option Nat := st.falls.findIdx? (fun f => f.at_ == st.count)
def changeK (st : DK) (c : Chg) : DK × Int :=
 match hitI st with
 | none => (addK st c, 0)
 | some i => (failK { st with wait := st.wait ++ [c], falls := st.falls.eraseIdx i } (st.falls.getD i zF).keep (st.falls.getD i zF).torn, 21)
/-- what a change asks of the disk -/
structure CanC (st : DK) (c : Chg) : Prop where
 ok : OkC st.now c
 len : (st.wait.length + 1) * 64 ≤ 140737488355328
 cnt : 0 ≤ st.count ∧ st.count < 9000000000000000000
 falls : st.falls.length * 24 ≤ 140737488355328
 valid : Valid st.sure (st.wait ++ [c])
theorem do_calls2 {w : World} {b : Nat} {l : Fs} (c : Chg) (h : OwnF w b l.length l) (hok : OkC l c) :
  Calls Tryz.prog 87 #[.map (some b), .agg #[.int .i64 c.kind, .string c.name, .string c.dest, .string c.s, .int .i64 c.long]] w fun e w' => e = .returned (.tuple #[]) ∧ OwnF w' b (doC l c).length (doC l c) ∧ w.grownBy w' (some b) ∧ (∀ a v, a.block ≠ b → w.cell? a = some v → w'.cell? a = some v) :=
 (do_calls c h hok).mono fun e w' ⟨h1, h2, h3⟩ => ⟨h1, h2, h3, fun a v hne hv => h3.cell hv (fun e => hne (Option.some.inj e))⟩
theorem fin_fail {w w6 w8 : World} {d : Nat} {ok : Nat → Prop} {st : DK} {bs bn : Nat} {vw vf : Value} {F : Fs} {keep torn : Int} (h : IsDL w8 d ok { st with sure := F } bs bn vw vf) (hO : OwnF w8 w6.heap.size F.length F) (hnew : ∀ k, w.heap.size ≤ k → ok k) (hK : Kp ok w w8) (hs : w.heap.size ≤ w6.heap.size)
  (hF : failK st keep torn = { st with sure := failF st keep torn, now := failF st keep torn, wait := [], down := true }) (hE : F = failF st keep torn) (hne : bs ≠ w6.heap.size) (hst : st.down = false) :
  Ending.returned (Value.tuple #[]) = Ending.returned (Value.tuple #[]) ∧ IsD (((w8.setCell ⟨d, 1, none⟩ (.map (some w6.heap.size))).setCell ⟨d, 2, none⟩ (.slice none 0 0)).setCell ⟨d, 4, none⟩ (.bool true)) d ok (failK st keep torn) ∧ Kp ok w (((w8.setCell ⟨d, 1, none⟩ (.map (some w6.heap.size))).setCell ⟨d, 2, none⟩ (.slice none 0 0)).setCell ⟨d, 4, none⟩ (.bool true)) := by
 have h1 := h.set (st' := { st with sure := F, now := F }) (bn' := w6.heap.size) 1 (.map (some w6.heap.size)) (blk_put (cs := #[.map (some bs), .map (some bn), vw, .int .i64 st.count, .bool st.down, vf, .int .i64 st.room]) h.blk 1 _ rfl) h.sure hO hne h.oks (hnew _ hs) h.wait h.falls
 have h2 := h1.set (st' := { st with sure := F, now := F, wait := [] }) (vw' := .slice none 0 0) 2 (.slice none 0 0) (blk_put (cs := #[.map (some bs), .map (some w6.heap.size), vw, .int .i64 st.count, .bool st.down, vf, .int .i64 st.room]) h1.blk 2 _ rfl) h1.sure h1.now hne h1.oks h1.okn (Kd.R_nil _ _ _ _ _) h1.falls
 have h3 := h2.set (st' := { st with sure := F, now := F, wait := [], down := true }) 4 (.bool true) (blk_put (cs := #[.map (some bs), .map (some w6.heap.size), .slice none 0 0, .int .i64 st.count, .bool st.down, vf, .int .i64 st.room]) h2.blk 4 _ rfl) h2.sure h2.now hne h2.oks h2.okn h2.wait h2.falls
 refine ⟨rfl, ?_, ((hK.set h.okd _).set h.okd _).set h.okd _⟩
 rw [hF, ← hE]
 exact ⟨_, _, _, _, h3⟩
theorem fail_calls {w : World} {d : Nat} {ok : Nat → Prop} {st : DK} (h : IsD w d ok st) (hnew : ∀ k, w.heap.size ≤ k → ok k) (hv : Valid st.sure st.wait) (keep torn : Int) :
  Calls Tryz.prog 86 #[.pointer (some ⟨d, 0, none⟩), .int .i64 keep, .int .i64 torn] w fun e w' => e = .returned (.tuple #[]) ∧ IsD w' d ok (failK st keep torn) ∧ Kp ok w w' := by
 have hu := Tryz.underlying62
 have huc := Tryz.underlying119
 cases hd : st.down with
 | true =>
  have H := Aside0.mk h
  have HF : Aside0 (failK st keep torn = st) := ⟨if_pos hd⟩
  have HD := Aside0.mk hd
  clear h hnew hv hd
  go_enter Tryz.func86, Tryz.ntmps86
  go_wp2_with (fail)
  refine (down_calls H.out).mono ?_
  rintro e w1 ⟨rfl, rfl⟩
  rw [HD.out]
  go_wp2
  refine bodyPost_ret (results_none rfl _ _ _) rfl ?_
  exact ⟨rfl, by rw [HF.out]; exact H.out, Kp.refl _ _⟩
 | false =>
  have HF : Aside0 (failK st keep torn = { st with sure := failF st keep torn, now := failF st keep torn, wait := [], down := true }) := ⟨if_neg (by rw [hd]; simp)⟩
  have HD := Aside0.mk hd
  have H0 := Aside0.mk h
  obtain ⟨bs, bn, vw, vf, h⟩ := h
  obtain ⟨A, c, rfl, hlc, hC⟩ := Kd.R_reads h.wait
  have HC := Aside0.mk hC
  have HLC := Aside0.mk hlc
  have HM := Aside0.mk (Kd.C_max hC)
  have H := Aside0.mk h
  have HN := Aside0.mk hnew
  have HV := Aside0.mk hv
  have hc2 := h.c2
  obtain ⟨n, hn⟩ : ∃ n, n = clampK keep st.wait.length := ⟨_, rfl⟩
  have hnle : n ≤ st.wait.length := by rw [hn]; unfold clampK; omega
  have hmm : min (max keep 0) (st.wait.length : Int) = (n : Int) := by rw [hn]; unfold clampK; omega
  have HNN := Aside0.mk hn
  have g1 : (0 : Int) ≤ (n : Int) := by omega
  have g2 : (n : Int) ≤ (c : Int) := by omega
  clear h hnew hv hd hC hn
  go_enter Tryz.func86, Tryz.ntmps86
  go_wp2_with (fail)
  refine (down_calls H0.out).mono ?_
  rintro e w1 ⟨rfl, rfl⟩
  rw [HD.out]
  go_wp2_with (fail)
  go_loopg [7, 26] (n + 1) (fun kq v7 v26 w' => ∃ (j : Nat), v26 = .int .i64 (j : Int) ∧ Aside0 (j + kq = n + 1 ∧ j ≤ n) ∧ Aside0 (IsDL w' d ok { st with sure := (st.wait.take j).foldl doC st.sure } bs bn (.slice A st.wait.length c) vf) ∧ Aside0 (Kp ok w1 w'))
  case atStart => exact ⟨0, rfl, ⟨by omega, by omega⟩, ⟨H.out⟩, ⟨Kp.refl _ _⟩⟩
  case round =>
   obtain ⟨j, rfl, HJ, HI, HK⟩ := hrel
   clear hc2 hmm
   cases gk with
   | zero => have := HJ.out; omega
   | succ k1 =>
    have hn3 := hnle
    by_cases hj : j < n
    ·have hlt : ((j : Int) < (n : Int)) = True := eq_true (by omega)
     have hi := HI.out
     obtain ⟨A', c', hA', _, hC'⟩ := Kd.R_reads hi.wait
     injection hA' with hA1 hA2 hA3
     subst hA1
     obtain ⟨ad, e, h0, h1, h2, h3, h4⟩ := at_C hC' j (by omega)
     subst e
     have hx : st.wait[j]? = some (st.wait.getD j zC) := by rw [List.getD_eq_getElem?_getD, List.getElem?_eq_getElem (by omega)]; rfl
     have HX := Aside0.mk hx
     have HOK := Aside0.mk (HV.out.at hx)
     obtain ⟨x, hxx⟩ : ∃ x, x = st.wait.getD j zC := ⟨_, rfl⟩
     rw [← hxx] at h0 h1 h2 h3 h4
     have HXX := Aside0.mk hxx
     have c0 := hi.c0
     clear hi hC' hx hxx hA2 hA3
     go_wp2_with (fail)
     have H5 := Aside0.mk (HI.out.alloc (.cells #[.int .i64 x.kind, .string x.name, .string x.dest, .string x.s, .int .i64 x.long] 119 (0, 0)))
     have k0 := H5.out.c0
     have b0 := (blk_cell (heap_alloc_new wr (.cells #[.int .i64 x.kind, .string x.name, .string x.dest, .string x.s, .int .i64 x.long] 119 (0, 0))) 0).trans rfl
     have b1 := (blk_cell (heap_alloc_new wr (.cells #[.int .i64 x.kind, .string x.name, .string x.dest, .string x.s, .int .i64 x.long] 119 (0, 0))) 1).trans rfl
     have b2 := (blk_cell (heap_alloc_new wr (.cells #[.int .i64 x.kind, .string x.name, .string x.dest, .string x.s, .int .i64 x.long] 119 (0, 0))) 2).trans rfl
     have b3 := (blk_cell (heap_alloc_new wr (.cells #[.int .i64 x.kind, .string x.name, .string x.dest, .string x.s, .int .i64 x.long] 119 (0, 0))) 3).trans rfl
     have b4 := (blk_cell (heap_alloc_new wr (.cells #[.int .i64 x.kind, .string x.name, .string x.dest, .string x.s, .int .i64 x.long] 119 (0, 0))) 4).trans rfl
     have NE0 : Aside0 (d ≠ bs) := ⟨HI.out.ned.1⟩
     have NE1 : Aside0 (wr.heap.size ≠ bs) := ⟨by have := HI.out.sure.lt; omega⟩
     have HK5 : Aside0 (Kp ok w1 (wr.alloc (.cells #[.int .i64 x.kind, .string x.name, .string x.dest, .string x.s, .int .i64 x.long] 119 (0, 0))).drew) := ⟨(HK.out.alloc _).drew⟩
     clear c0 h0 h1 h2 h3 h4
     go_region_held3 (fun w' => w'.cell? ⟨d, 0, none⟩ = some (.map (some bs)) ∧ w'.cell? ⟨wr.heap.size, 0, none⟩ = some (.int .i64 x.kind) ∧ w'.cell? ⟨wr.heap.size, 1, none⟩ = some (.string x.name) ∧ w'.cell? ⟨wr.heap.size, 2, none⟩ = some (.string x.dest) ∧ w'.cell? ⟨wr.heap.size, 3, none⟩ = some (.string x.s) ∧ w'.cell? ⟨wr.heap.size, 4, none⟩ = some (.int .i64 x.long)) (go_keep)
      ((go_at_call 87; refine (do_calls2 x H5.out.drew.sure (by rw [HXX.out]; exact HOK.out)).mono ?_; rintro e w' ⟨rfl, hO, hG, hf⟩; have q0 := hf _ _ NE0.out k0; have q1 := hf _ _ NE1.out b0; have q2 := hf _ _ NE1.out b1; have q3 := hf _ _ NE1.out b2; have q4 := hf _ _ NE1.out b3; have q5 := hf _ _ NE1.out b4; have H6 := Aside0.mk (H5.out.drew.maps hG hO); have K6 := Aside0.mk (HK5.out.trans (Kp.of_grown hG (fun k e => by cases e; exact HI.out.oks))); clear hO hG hf))
     -- ROUND END
     go_wp2
     go_roundg k1
     case measure => have := HJ.out; omega
     case rel => exact ⟨j + 1, by rw [IntWalk.wrap64_in _ (by have := HM.out; omega)]; rfl, ⟨by have := HJ.out; omega, by omega⟩, ⟨by rw [foldl_take _ _ _ _ _ HX.out, ← HXX.out]; exact H6.out⟩, K6⟩
    ·obtain rfl : j = n := by have := HJ.out; omega
     have hlt : ((j : Int) < (j : Int)) = False := eq_false (by omega)
     have c2 := HI.out.c2
     by_cases hA : j < st.wait.length
     ·have hlt2 : ((j : Int) < (st.wait.length : Int)) = True := eq_true (by omega)
      by_cases hT : 0 < torn
      ·have ht1 : (torn > 0) = True := eq_true hT
       have ht2 : (0 < torn) = True := eq_true hT
       have hi := HI.out
       obtain ⟨A', c', hA', _, hC'⟩ := Kd.R_reads hi.wait
       injection hA' with hA1 hA2 hA3
       subst hA1
       obtain ⟨ad, e, h0, h1, h2, h3, h4⟩ := at_C hC' j (by omega)
       subst e
       have hx : st.wait[j]? = some (st.wait.getD j zC) := by rw [List.getD_eq_getElem?_getD, List.getElem?_eq_getElem (by omega)]; rfl
       have HX := Aside0.mk hx
       have HOK := Aside0.mk (HV.out.at hx)
       obtain ⟨x, hxx⟩ : ∃ x, x = st.wait.getD j zC := ⟨_, rfl⟩
       rw [← hxx] at h0 h1 h2 h3 h4
       have HXX := Aside0.mk hxx
       have HT0 := Aside0.mk hT
       have m0 : (0 : Int) ≤ min torn (x.s.size : Int) := by omega
       have m1 : min torn (x.s.size : Int) ≤ (x.s.size : Int) := by omega
       clear hi hC' hx hxx hA2 hA3 hT
       by_cases hk : x.kind = 0
       ·have HKO : Aside0 (x.kind = 0 ∨ x.kind = 1) := ⟨Or.inl hk⟩
        rw [hk] at h0
        have HKI := Aside0.mk hk
        go_wp2_with (fail)
        have H5 := Aside0.mk (HI.out.alloc (.cells #[.int .i64 0, .string x.name, .string x.dest, .string (x.s.extract 0 (min torn (x.s.size : Int)).toNat), .int .i64 x.long] 119 (0, 0)))
        have k0 := H5.out.c0
        have b0 := (blk_cell (heap_alloc_new wr (.cells #[.int .i64 0, .string x.name, .string x.dest, .string (x.s.extract 0 (min torn (x.s.size : Int)).toNat), .int .i64 x.long] 119 (0, 0))) 0).trans rfl
        have b1 := (blk_cell (heap_alloc_new wr (.cells #[.int .i64 0, .string x.name, .string x.dest, .string (x.s.extract 0 (min torn (x.s.size : Int)).toNat), .int .i64 x.long] 119 (0, 0))) 1).trans rfl
        have b2 := (blk_cell (heap_alloc_new wr (.cells #[.int .i64 0, .string x.name, .string x.dest, .string (x.s.extract 0 (min torn (x.s.size : Int)).toNat), .int .i64 x.long] 119 (0, 0))) 2).trans rfl
        have b3 := (blk_cell (heap_alloc_new wr (.cells #[.int .i64 0, .string x.name, .string x.dest, .string (x.s.extract 0 (min torn (x.s.size : Int)).toNat), .int .i64 x.long] 119 (0, 0))) 3).trans rfl
        have b4 := (blk_cell (heap_alloc_new wr (.cells #[.int .i64 0, .string x.name, .string x.dest, .string (x.s.extract 0 (min torn (x.s.size : Int)).toNat), .int .i64 x.long] 119 (0, 0))) 4).trans rfl
        have NE0 : Aside0 (d ≠ bs) := ⟨HI.out.ned.1⟩
        have NE1 : Aside0 (wr.heap.size ≠ bs) := ⟨by have := HI.out.sure.lt; omega⟩
        have HK5 : Aside0 (Kp ok w1 (wr.alloc (.cells #[.int .i64 0, .string x.name, .string x.dest, .string (x.s.extract 0 (min torn (x.s.size : Int)).toNat), .int .i64 x.long] 119 (0, 0))).drew) := ⟨(HK.out.alloc _).drew⟩
        have HOT := Aside0.mk (okC_torn (torn := torn) HOK.out (by rw [← HXX.out]; exact HKO.out))
        have hcx : tornC (st.wait.getD j zC) torn = ⟨0, x.name, x.dest, x.s.extract 0 (min torn (x.s.size : Int)).toNat, x.long⟩ := by rw [← HXX.out]; unfold tornC; rw [← HKI.out]
        rw [hcx] at HOT
        have HCX := Aside0.mk hcx
        clear c2 h0 h1 h2 h3 h4 hcx
        go_region_held3 (fun w' => w'.cell? ⟨d, 0, none⟩ = some (.map (some bs)) ∧ w'.cell? ⟨wr.heap.size, 0, none⟩ = some (.int .i64 0) ∧ w'.cell? ⟨wr.heap.size, 1, none⟩ = some (.string x.name) ∧ w'.cell? ⟨wr.heap.size, 2, none⟩ = some (.string x.dest) ∧ w'.cell? ⟨wr.heap.size, 3, none⟩ = some (.string (x.s.extract 0 (min torn (x.s.size : Int)).toNat)) ∧ w'.cell? ⟨wr.heap.size, 4, none⟩ = some (.int .i64 x.long)) (go_keep)
         ((go_at_call 87; refine (do_calls2 ⟨0, x.name, x.dest, x.s.extract 0 (min torn (x.s.size : Int)).toNat, x.long⟩ H5.out.drew.sure HOT.out).mono ?_; rintro e w' ⟨rfl, hO, hG, hf⟩; have q0 := hf _ _ NE0.out k0; have q1 := hf _ _ NE1.out b0; have q2 := hf _ _ NE1.out b1; have q3 := hf _ _ NE1.out b2; have q4 := hf _ _ NE1.out b3; have q5 := hf _ _ NE1.out b4; have H6 := Aside0.mk (H5.out.drew.maps hG hO); have K6 := Aside0.mk (HK5.out.trans (Kp.of_grown hG (fun k e => by cases e; exact HI.out.oks))); clear hO hG hf))
        have HFE : Aside0 (doC ((st.wait.take j).foldl doC st.sure) ⟨0, x.name, x.dest, x.s.extract 0 (min torn (x.s.size : Int)).toNat, x.long⟩ = failF st keep torn) := ⟨by
         rw [← HCX.out]; exact (failF_torn HNN.out HX.out HT0.out (by rw [← HXX.out]; exact HKO.out)).symm⟩
        have k0 := H6.out.c0
        go_wp2_with (fail)
        refine (mclone_calls H6.out.sure).mono ?_
        rintro e w8 ⟨rfl, hO, _, hb⟩
        have NE8 : Aside0 (bs ≠ _) := ⟨Nat.ne_of_lt H6.out.sure.lt⟩
        have H8 := Aside0.mk (H6.out.below hb)
        have O8 := Aside0.mk hO
        have B8 := Aside0.mk hb
        have z1 := H8.out.fz 1
        have z2 := H8.out.fz 2
        have z4 := H8.out.fz 4
        have c1 := H8.out.c1
        have c2 := H8.out.c2
        have c4 := H8.out.c4
        clear hO hb
        go_wp2_with (fail)
        go_end0
        exact fin_fail (w6 := _) H8.out O8.out HN.out (K6.out.trans (Kp.of_below B8.out)) K6.out.size HF.out (HFE.out) NE8.out HD.out
       by_cases hk1 : x.kind = 1
       ·have hk := hk1
        have HKO : Aside0 (x.kind = 0 ∨ x.kind = 1) := ⟨Or.inr hk1⟩
        rw [hk1] at h0
        clear hk1
        have HKI := Aside0.mk hk
        go_wp2_with (fail)
        have H5 := Aside0.mk (HI.out.alloc (.cells #[.int .i64 1, .string x.name, .string x.dest, .string (x.s.extract 0 (min torn (x.s.size : Int)).toNat), .int .i64 x.long] 119 (0, 0)))
        have k0 := H5.out.c0
        have b0 := (blk_cell (heap_alloc_new wr (.cells #[.int .i64 1, .string x.name, .string x.dest, .string (x.s.extract 0 (min torn (x.s.size : Int)).toNat), .int .i64 x.long] 119 (0, 0))) 0).trans rfl
        have b1 := (blk_cell (heap_alloc_new wr (.cells #[.int .i64 1, .string x.name, .string x.dest, .string (x.s.extract 0 (min torn (x.s.size : Int)).toNat), .int .i64 x.long] 119 (0, 0))) 1).trans rfl
        have b2 := (blk_cell (heap_alloc_new wr (.cells #[.int .i64 1, .string x.name, .string x.dest, .string (x.s.extract 0 (min torn (x.s.size : Int)).toNat), .int .i64 x.long] 119 (0, 0))) 2).trans rfl
        have b3 := (blk_cell (heap_alloc_new wr (.cells #[.int .i64 1, .string x.name, .string x.dest, .string (x.s.extract 0 (min torn (x.s.size : Int)).toNat), .int .i64 x.long] 119 (0, 0))) 3).trans rfl
        have b4 := (blk_cell (heap_alloc_new wr (.cells #[.int .i64 1, .string x.name, .string x.dest, .string (x.s.extract 0 (min torn (x.s.size : Int)).toNat), .int .i64 x.long] 119 (0, 0))) 4).trans rfl
        have NE0 : Aside0 (d ≠ bs) := ⟨HI.out.ned.1⟩
        have NE1 : Aside0 (wr.heap.size ≠ bs) := ⟨by have := HI.out.sure.lt; omega⟩
        have HK5 : Aside0 (Kp ok w1 (wr.alloc (.cells #[.int .i64 1, .string x.name, .string x.dest, .string (x.s.extract 0 (min torn (x.s.size : Int)).toNat), .int .i64 x.long] 119 (0, 0))).drew) := ⟨(HK.out.alloc _).drew⟩
        have HOT := Aside0.mk (okC_torn (torn := torn) HOK.out (by rw [← HXX.out]; exact HKO.out))
        have hcx : tornC (st.wait.getD j zC) torn = ⟨1, x.name, x.dest, x.s.extract 0 (min torn (x.s.size : Int)).toNat, x.long⟩ := by rw [← HXX.out]; unfold tornC; rw [← HKI.out]
        rw [hcx] at HOT
        have HCX := Aside0.mk hcx
        clear c2 h0 h1 h2 h3 h4 hcx
        go_region_held3 (fun w' => w'.cell? ⟨d, 0, none⟩ = some (.map (some bs)) ∧ w'.cell? ⟨wr.heap.size, 0, none⟩ = some (.int .i64 1) ∧ w'.cell? ⟨wr.heap.size, 1, none⟩ = some (.string x.name) ∧ w'.cell? ⟨wr.heap.size, 2, none⟩ = some (.string x.dest) ∧ w'.cell? ⟨wr.heap.size, 3, none⟩ = some (.string (x.s.extract 0 (min torn (x.s.size : Int)).toNat)) ∧ w'.cell? ⟨wr.heap.size, 4, none⟩ = some (.int .i64 x.long)) (go_keep)
         ((go_at_call 87; refine (do_calls2 ⟨1, x.name, x.dest, x.s.extract 0 (min torn (x.s.size : Int)).toNat, x.long⟩ H5.out.drew.sure HOT.out).mono ?_; rintro e w' ⟨rfl, hO, hG, hf⟩; have q0 := hf _ _ NE0.out k0; have q1 := hf _ _ NE1.out b0; have q2 := hf _ _ NE1.out b1; have q3 := hf _ _ NE1.out b2; have q4 := hf _ _ NE1.out b3; have q5 := hf _ _ NE1.out b4; have H6 := Aside0.mk (H5.out.drew.maps hG hO); have K6 := Aside0.mk (HK5.out.trans (Kp.of_grown hG (fun k e => by cases e; exact HI.out.oks))); clear hO hG hf))
        have HFE : Aside0 (doC ((st.wait.take j).foldl doC st.sure) ⟨1, x.name, x.dest, x.s.extract 0 (min torn (x.s.size : Int)).toNat, x.long⟩ = failF st keep torn) := ⟨by
         rw [← HCX.out]; exact (failF_torn HNN.out HX.out HT0.out (by rw [← HXX.out]; exact HKO.out)).symm⟩
        have k0 := H6.out.c0
        go_wp2_with (fail)
        refine (mclone_calls H6.out.sure).mono ?_
        rintro e w8 ⟨rfl, hO, _, hb⟩
        have NE8 : Aside0 (bs ≠ _) := ⟨Nat.ne_of_lt H6.out.sure.lt⟩
        have H8 := Aside0.mk (H6.out.below hb)
        have O8 := Aside0.mk hO
        have B8 := Aside0.mk hb
        have z1 := H8.out.fz 1
        have z2 := H8.out.fz 2
        have z4 := H8.out.fz 4
        have c1 := H8.out.c1
        have c2 := H8.out.c2
        have c4 := H8.out.c4
        clear hO hb
        go_wp2_with (fail)
        go_end0
        exact fin_fail (w6 := _) H8.out O8.out HN.out (K6.out.trans (Kp.of_below B8.out)) K6.out.size HF.out (HFE.out) NE8.out HD.out
       have ke0 : (x.kind == 0) = false := beq_eq_false_iff_ne.mpr hk
       have ke1 : (x.kind == 1) = false := beq_eq_false_iff_ne.mpr hk1
       have HFE : Aside0 ((st.wait.take j).foldl doC st.sure = failF st keep torn) := ⟨(failF_other HNN.out HX.out (fun e => e.2.elim (by rw [← HXX.out]; exact hk) (by rw [← HXX.out]; exact hk1))).symm⟩
       have H6 := Aside0.mk (HI.out.alloc (.cells #[.int .i64 x.kind, .string x.name, .string x.dest, .string x.s, .int .i64 x.long] 119 (0, 0)))
       have K6 := Aside0.mk (HK.out.alloc (.cells #[.int .i64 x.kind, .string x.name, .string x.dest, .string x.s, .int .i64 x.long] 119 (0, 0)))
       clear hk hk1
       have k0 := H6.out.c0
       go_wp2_with (fail)
       generalize wr.alloc (.cells #[.int .i64 x.kind, .string x.name, .string x.dest, .string x.s, .int .i64 x.long] 119 (0, 0)) = w6 at H6 K6 k0 ⊢
       refine (mclone_calls H6.out.sure).mono ?_
       rintro e w8 ⟨rfl, hO, _, hb⟩
       have NE8 : Aside0 (bs ≠ _) := ⟨Nat.ne_of_lt H6.out.sure.lt⟩
       have H8 := Aside0.mk (H6.out.below hb)
       have O8 := Aside0.mk hO
       have B8 := Aside0.mk hb
       have z1 := H8.out.fz 1
       have z2 := H8.out.fz 2
       have z4 := H8.out.fz 4
       have c1 := H8.out.c1
       have c2 := H8.out.c2
       have c4 := H8.out.c4
       clear hO hb
       go_wp2_with (fail)
       go_end0
       exact fin_fail (w6 := _) H8.out O8.out HN.out (K6.out.trans (Kp.of_below B8.out)) K6.out.size HF.out (HFE.out) NE8.out HD.out
      ·have ht1 : (torn > 0) = False := eq_false (by omega)
       have ht2 : (0 < torn) = False := eq_false (by omega)
       have HFE : Aside0 ((st.wait.take j).foldl doC st.sure = failF st keep torn) := ⟨(failF_none HNN.out (Or.inr hT)).symm⟩
       have k0 := HI.out.c0
       go_wp2_with (fail)
       refine (mclone_calls HI.out.sure).mono ?_
       rintro e w8 ⟨rfl, hO, _, hb⟩
       have NE8 : Aside0 (bs ≠ _) := ⟨Nat.ne_of_lt HI.out.sure.lt⟩
       have H8 := Aside0.mk (HI.out.below hb)
       have O8 := Aside0.mk hO
       have B8 := Aside0.mk hb
       have z1 := H8.out.fz 1
       have z2 := H8.out.fz 2
       have z4 := H8.out.fz 4
       have c1 := H8.out.c1
       have c2 := H8.out.c2
       have c4 := H8.out.c4
       clear hO hb
       go_wp2_with (fail)
       go_end0
       exact fin_fail (w6 := _) H8.out O8.out HN.out (HK.out.trans (Kp.of_below B8.out)) HK.out.size HF.out (HFE.out) NE8.out HD.out
     ·have hlt2 : ((j : Int) < (st.wait.length : Int)) = False := eq_false (by omega)
      have HFE : Aside0 ((st.wait.take j).foldl doC st.sure = failF st keep torn) := ⟨(failF_none HNN.out (Or.inl (by omega))).symm⟩
      have k0 := HI.out.c0
      go_wp2_with (fail)
      refine (mclone_calls HI.out.sure).mono ?_
      rintro e w8 ⟨rfl, hO, _, hb⟩
      have NE8 : Aside0 (bs ≠ _) := ⟨Nat.ne_of_lt HI.out.sure.lt⟩
      have H8 := Aside0.mk (HI.out.below hb)
      have O8 := Aside0.mk hO
      have B8 := Aside0.mk hb
      have z1 := H8.out.fz 1
      have z2 := H8.out.fz 2
      have z4 := H8.out.fz 4
      have c1 := H8.out.c1
      have c2 := H8.out.c2
      have c4 := H8.out.c4
      clear hO hb
      go_wp2_with (fail)
      go_end0
      exact fin_fail (w6 := _) H8.out O8.out HN.out (HK.out.trans (Kp.of_below B8.out)) HK.out.size HF.out (HFE.out) NE8.out HD.out

theorem ned_wait {W : World} {d : Nat} {ok : Nat → Prop} {st : DK} {bs bn : Nat} {vw vf : Value} (h : IsDL W d ok st bs bn vw vf) : vw.ownBlock ≠ some d := fun e => typed_ne ((Kd.R_bound h.wait).1 d e).2.2.2 h.blk chg_ne rfl
theorem IsDL.append {W W1 : World} {d : Nat} {ok : Nat → Prop} {st : DK} {bs bn : Nat} {vw vf v1 : Value} {xs : List Chg} (h : IsDL W d ok st bs bn vw vf) (hg : W.grownBy W1 vw.ownBlock) (hR : kC.R 119 W1 0 ok v1 xs) : IsDL (W1.setCell ⟨d, 2, none⟩ v1) d ok { st with wait := xs } bs bn v1 vf := by
 have far : ∀ k, k < W.heap.size → vw.ownBlock ≠ some k → W1.heap[k]? = W.heap[k]? := fun k hk hne => hg.block k hk (fun e => hne e.symm)
 have own := (Kd.R_bound h.wait).1
 obtain ⟨_, _, m1⟩ := h.sure.at
 obtain ⟨_, _, m2⟩ := h.now.at
 have hd := (far d h.lt (ned_wait h)).trans h.blk
 have e1 := far bs h.sure.lt (fun e => typed_nemap (own bs e).2.2.2 m1 rfl)
 have e2 := far bn h.now.lt (fun e => typed_nemap (own bn e).2.2.2 m2 rfl)
 have hf : kF.R 134 W1 0 ok vf st.falls := R_keepT h.falls (fun k hk _ ht => far k hk (fun e => by
  obtain ⟨q, hq, c, hc⟩ := (own k e).2.2.2
  exact typed_ne ht hc (fun q' hq' => by
   rw [kF_E] at hq'; rw [kC_E] at hq
   rw [List.mem_singleton.1 hq', List.mem_singleton.1 hq]
   decide) rfl))
 have hs := OwnF_move h.sure e1
 have hn := OwnF_move h.now e2
 have far2 : ∀ k, k ≠ d → (W1.setCell ⟨d, 2, none⟩ v1).heap[k]? = W1.heap[k]? := fun k hk => Below.heap_setCell W1 ⟨d, 2, none⟩ v1 k hk
 exact ⟨blk_put (cs := #[.map (some bs), .map (some bn), vw, .int .i64 st.count, .bool st.down, vf, .int .i64 st.room]) hd 2 _ rfl, OwnF_move hs (far2 _ (fun e => h.ned.1 e.symm)), OwnF_move hn (far2 _ (fun e => h.ned.2 e.symm)), h.ne, h.okd, h.oks, h.okn, R_keepT hR (fun k _ _ ht => far2 k (typed_ne ht hd chg_ne)), R_keepT hf (fun k _ _ ht => far2 k (typed_ne ht hd fall_ne))⟩
theorem change_none {w : World} {d : Nat} {ok : Nat → Prop} {st : DK} (h : IsD w d ok st) (hnew : ∀ k, w.heap.size ≤ k → ok k) (c : Chg) (hok : OkC st.now c) (hl : (st.wait.length + 1) * 64 ≤ 140737488355328) (hct : 0 ≤ st.count ∧ st.count < 9000000000000000000) (hfa : ∀ j, j < st.falls.length → (st.falls.getD j zF).at_ ≠ st.count) :
  Calls Tryz.prog 67 #[.pointer (some ⟨d, 0, none⟩), .agg #[.int .i64 c.kind, .string c.name, .string c.dest, .string c.s, .int .i64 c.long]] w fun e w' => e = .returned (.int .i64 0) ∧ IsD w' d ok (addK st c) ∧ Kp ok w w' := by
 have hu := Tryz.underlying62
 have huc := Tryz.underlying119
 have huf := Tryz.underlying134
 obtain ⟨bs, bn, vw, vf, h⟩ := h.bound
 obtain ⟨A, cf, rfl, hlc, hC⟩ := Kd.R_reads h.falls
 have HM := Aside0.mk (Kd.C_max hC)
 have HC := Aside0.mk hC
 have HVW : Aside0 (∀ k, vw.ownBlock = some k → ok k ∧ k < w.heap.size) := ⟨h.wait.1⟩
 have H := Aside0.mk (h.alloc (.cells #[.int .i64 c.kind, .string c.name, .string c.dest, .string c.s, .int .i64 c.long] 119 (0, 0)))
 have HN := Aside0.mk hnew
 have HOK := Aside0.mk hok
 have HL := Aside0.mk hl
 have HCT := Aside0.mk hct
 have HFA := Aside0.mk hfa
 have HLT := Aside0.mk h.lt
 have HBX := Aside0.mk (heap_alloc_new w (.cells #[.int .i64 c.kind, .string c.name, .string c.dest, .string c.s, .int .i64 c.long] 119 (0, 0)))
 have HKA := Aside0.mk ((Kp.refl ok w).alloc (.cells #[.int .i64 c.kind, .string c.name, .string c.dest, .string c.s, .int .i64 c.long] 119 (0, 0)))
 have c5 := H.out.c5
 obtain ⟨n, hn⟩ : ∃ n, n = st.falls.length := ⟨_, rfl⟩
 have hng : n ≤ 9223372036854775807 := by have := HM.out; omega
 have HNN := Aside0.mk hn
 clear h hC hnew hok hl hct hfa
 go_enter Tryz.func67, Tryz.ntmps67
 go_wp2_with (fail)
 rw [← hn]
 clear hn
 go_loopg [5, 6, 12] (n + 1) (fun kq v5 v6 v12 w' => ∃ (j : Nat), v12 = .int .i64 (j : Int) ∧ Aside0 (j + kq = n + 1 ∧ j ≤ n) ∧ Aside0 (IsDL w' d (fun k => ok k ∧ k < w.heap.size) st bs bn vw (.slice A st.falls.length cf)) ∧ Aside0 (w'.heap[w.heap.size]? = some (.cells #[.int .i64 c.kind, .string c.name, .string c.dest, .string c.s, .int .i64 c.long] 119 (0, 0))) ∧ Aside0 (Kp ok w w'))
 case atStart => exact ⟨0, rfl, ⟨by omega, by omega⟩, H, HBX, HKA⟩
 case round =>
  obtain ⟨j, rfl, HJ, HI, HB, HK⟩ := hrel
  clear c5
  cases gk with
  | zero => have := HJ.out; omega
  | succ k1 =>
   by_cases hj : j < n
   ·have hlt : ((j : Int) < (n : Int)) = True := eq_true (by omega)
    have hi := HI.out
    obtain ⟨A', c', hA', _, hC'⟩ := Kd.R_reads hi.falls
    injection hA' with hA1 hA2 hA3
    subst hA1
    obtain ⟨ad, e, h0, h1, h2⟩ := at_F hC' j (by have := HNN.out; omega)
    subst e
    have hne : (((st.falls.getD j zF).at_) == st.count) = false := beq_eq_false_iff_ne.mpr (HFA.out j (by have := HNN.out; omega))
    obtain ⟨x, hxx⟩ : ∃ x, x = st.falls.getD j zF := ⟨_, rfl⟩
    rw [← hxx] at h0 h1 h2 hne
    clear hi hC' hxx hA2 hA3
    go_wp2_with (fail)
    have H5 := Aside0.mk (HI.out.alloc (.cells #[.int .i64 x.at_, .int .i64 x.keep, .int .i64 x.torn] 134 (0, 0)))
    have HB5 : Aside0 ((wr.alloc (.cells #[.int .i64 x.at_, .int .i64 x.keep, .int .i64 x.torn] 134 (0, 0))).heap[w.heap.size]? = some (.cells #[.int .i64 c.kind, .string c.name, .string c.dest, .string c.s, .int .i64 c.long] 119 (0, 0))) := ⟨(Below.heap_alloc _ _ _ (lt_of_some HB.out)).trans HB.out⟩
    have K5 := Aside0.mk (HK.out.alloc (.cells #[.int .i64 x.at_, .int .i64 x.keep, .int .i64 x.torn] 134 (0, 0)))
    have k3 := H5.out.c3
    have b0 := (blk_cell (heap_alloc_new wr (.cells #[.int .i64 x.at_, .int .i64 x.keep, .int .i64 x.torn] 134 (0, 0))) 0).trans rfl
    clear h0 h1 h2
    generalize wr.alloc (.cells #[.int .i64 x.at_, .int .i64 x.keep, .int .i64 x.torn] 134 (0, 0)) = w5 at H5 HB5 K5 k3 b0 ⊢
    go_region_held3 (fun w' => w'.cell? ⟨d, 3, none⟩ = some (.int .i64 st.count) ∧ w'.cell? ⟨wr.heap.size, 0, none⟩ = some (.int .i64 x.at_)) (go_keep)
     (fail)
    go_wp2
    go_roundg k1
    case measure => have := HJ.out; omega
    case rel => exact ⟨j + 1, rfl, ⟨by have := HJ.out; omega, by omega⟩, ⟨H5.out.drew⟩, ⟨HB5.out⟩, ⟨K5.out.drew⟩⟩
   ·obtain rfl : j = n := by have := HJ.out; omega
    have hlt : ((j : Int) < (j : Int)) = False := eq_false (by omega)
    have c3 := HI.out.c3
    have z3 := HI.out.fz 3
    have hadd : wrap64 (st.count + 1) = st.count + 1 := IntWalk.wrap64_in _ (by have := HCT.out; omega)
    go_wp2_with (fail)
    have H6 := Aside0.mk (HI.out.set (st' := { st with count := st.count + 1 }) 3 (.int .i64 (st.count + 1)) (blk_put (cs := #[.map (some bs), .map (some bn), vw, .int .i64 st.count, .bool st.down, .slice A st.falls.length cf, .int .i64 st.room]) HI.out.blk 3 _ rfl) HI.out.sure HI.out.now HI.out.ne HI.out.oks HI.out.okn HI.out.wait HI.out.falls)
    have HB6 : Aside0 ((wr.setCell ⟨d, 3, none⟩ (.int .i64 (st.count + 1))).heap[w.heap.size]? = some (.cells #[.int .i64 c.kind, .string c.name, .string c.dest, .string c.s, .int .i64 c.long] 119 (0, 0))) := ⟨(Below.heap_setCell wr ⟨d, 3, none⟩ _ _ (by have := HLT.out; simp only; omega)).trans HB.out⟩
    have K6 : Aside0 (Kp ok w (wr.setCell ⟨d, 3, none⟩ (.int .i64 (st.count + 1)))) := ⟨HK.out.set HI.out.okd.1 _⟩
    clear c3 z3
    generalize wr.setCell ⟨d, 3, none⟩ (.int .i64 (st.count + 1)) = w6 at H6 HB6 K6 ⊢
    have k2 := H6.out.drew.c2
    have b0 := (blk_cell HB6.out 0).trans rfl
    have b1 := (blk_cell HB6.out 1).trans rfl
    have b2 := (blk_cell HB6.out 2).trans rfl
    have b3 := (blk_cell HB6.out 3).trans rfl
    have b4 := (blk_cell HB6.out 4).trans rfl
    refine start_ (n := 11) (S := fun w' => w'.cell? ⟨d, 2, none⟩ = some vw ∧ w'.cell? ⟨w.heap.size, 0, none⟩ = some (.int .i64 c.kind) ∧ w'.cell? ⟨w.heap.size, 1, none⟩ = some (.string c.name) ∧ w'.cell? ⟨w.heap.size, 2, none⟩ = some (.string c.dest) ∧ w'.cell? ⟨w.heap.size, 3, none⟩ = some (.string c.s) ∧ w'.cell? ⟨w.heap.size, 4, none⟩ = some (.int .i64 c.long)) (ds := [10]) #[false, false, false, false, false, false, false, false, false, false, false] (by kernel_rfl) rfl rfl ⟨k2, b0, b1, b2, b3, b4⟩ (fun hHeld => ?_)
    refine pz 0 60 ?_
    refine pz 1 61 ?_
    refine pz 2 62 ?_
    refine pz 3 63 ?_
    refine tz 4 64 ?_
    refine tz 5 65 ?_
    refine one_ (i := 6) (N := some 66) #[true, true, true, true, true, true, true, false, false, false, false] rfl rfl (by kernel_rfl) (by decide) (fun K hK => ?_)
    refine event_step (v := .slice (some ⟨w6.drew.heap.size, 0, none⟩) 1 1) (w1 := (w6.drew.alloc (.cells #[.int .i64 c.kind, .string c.name, .string c.dest, .string c.s, .int .i64 c.long] 119 (0, 0)))) (by rfl) (by first | (go_simp; done) | (go_simp; rfl)) ?_
    have q1 := Aside0.mk ((H6.out.drew).alloc (.cells #[.int .i64 c.kind, .string c.name, .string c.dest, .string c.s, .int .i64 c.long] 119 (0, 0)))
    have q2 : Aside0 ((w6.drew.alloc (.cells #[.int .i64 c.kind, .string c.name, .string c.dest, .string c.s, .int .i64 c.long] 119 (0, 0))).heap[w.heap.size]? = some (.cells #[.int .i64 c.kind, .string c.name, .string c.dest, .string c.s, .int .i64 c.long] 119 (0, 0))) := ⟨(Below.heap_alloc w6.drew _ _ (lt_of_some (show w6.drew.heap[w.heap.size]? = _ from HB6.out))).trans HB6.out⟩
    refine hK.out _ _ ⟨q1.out.c2, (blk_cell q2.out 0).trans rfl, (blk_cell q2.out 1).trans rfl, (blk_cell q2.out 2).trans rfl, (blk_cell q2.out 3).trans rfl, (blk_cell q2.out 4).trans rfl⟩ (fun hHeld => ?_)
    clear hK K
    refine nz 66 ?_
    refine one_ (i := 7) (N := some 67) #[true, true, true, true, true, true, true, true, false, false, false] rfl rfl (by kernel_rfl) (by decide) (fun K hK => ?_)
    refine Kd.R_append_step kC (w0 := w6.drew) 0 (by rfl) _ _ 59 119 (.agg #[(.int .i64 0), (.string ⟨#[]⟩), (.string ⟨#[]⟩), (.string ⟨#[]⟩), (.int .i64 0)]) 64 (by rfl) Tryz.underlying59 infoC rfl (by decide) (by decide) vw st.wait c [.int .i64 c.kind, .string c.name, .string c.dest, .string c.s, .int .i64 c.long] (fun k => ok k) (fun _ => False) (by rfl) (by rfl) (kC_mkM _ _ _ c) (fun _ hk => hk.elim) (fun k hk => HN.out k (Nat.le_trans K6.out.size hk)) (Kd.R_mono H6.out.drew.wait (fun _ hk => hk.1)) (Below.refl _ _) (Nat.zero_le _) HL.out ?_
    intro v1 w1 hR hB hG hat
    have q3 := Aside0.mk hR
    have q4 := Aside0.mk hG
    clear hR hB hG hat
    have q5 : Aside0 (w1.heap[d]? = w6.drew.heap[d]?) := ⟨q4.out.block d H6.out.drew.lt (fun e => ned_wait H6.out.drew e.symm)⟩
    have q6 : Aside0 (w1.heap[w.heap.size]? = some (.cells #[.int .i64 c.kind, .string c.name, .string c.dest, .string c.s, .int .i64 c.long] 119 (0, 0))) := ⟨(q4.out.block _ (lt_of_some HB6.out) (fun e => Nat.lt_irrefl _ (HVW.out _ e.symm).2)).trans HB6.out⟩
    have q7 : Aside0 (w1.cell? ⟨d, 2, none⟩ = some vw) := ⟨(blk_cell (q5.out.trans H6.out.drew.blk) 2).trans rfl⟩
    have q8 : Aside0 (w1.frozen? ⟨d, 2, none⟩ = false) := ⟨blk_frozen (q5.out.trans H6.out.drew.blk) 2⟩
    refine hK.out _ _ ⟨q7.out, (blk_cell q6.out 0).trans rfl, (blk_cell q6.out 1).trans rfl, (blk_cell q6.out 2).trans rfl, (blk_cell q6.out 3).trans rfl, (blk_cell q6.out 4).trans rfl⟩ (fun hHeld => ?_)
    clear hK K
    refine nz 67 ?_
    refine pz 8 68 ?_
    refine pz 9 69 ?_
    refine last_ (i := 10) (N := none) #[true, true, true, true, true, true, true, true, true, true, true] rfl rfl (by kernel_rfl) (by decide) (fun K hK => ?_)
    have hcl := q7.out
    have hfr := q8.out
    obtain ⟨A1, c1, rfl, _⟩ := Kd.R_slice q3.out
    refine skip_ (w1 := ?_) (by rfl) rfl ?_ ?_
    rotate_left
    ·go_simp
     rfl
    refine hK.out _ _ ?_
    clear hK K
    refine done_ (by kernel_rfl) ?_
    clear hfr hcl hHeld k2 b0 b1 b2 b3 b4
   
    have hlen : (st.wait ++ [c]).length = st.wait.length + 1 := by simp
    rw [hlen] at q3
    clear hlen
    have H7 := Aside0.mk ((H6.out.drew.mono (fun _ hk => hk.1)).append q4.out q3.out)
    have HB7 : Aside0 ((w1.setCell ⟨d, 2, none⟩ (.slice A1 (st.wait.length + 1) c1)).heap[w.heap.size]? = some (.cells #[.int .i64 c.kind, .string c.name, .string c.dest, .string c.s, .int .i64 c.long] 119 (0, 0))) := ⟨(Below.heap_setCell w1 ⟨d, 2, none⟩ _ _ (by have := HLT.out; simp only; omega)).trans q6.out⟩
    have K7 : Aside0 (Kp ok w (w1.setCell ⟨d, 2, none⟩ (.slice A1 (st.wait.length + 1) c1))) := ⟨(K6.out.drew.trans (Kp.of_grown q4.out (fun k e => (HVW.out k e).1))).set HI.out.okd.1 _⟩
    clear q1 q2 q3 q4 q5 q6 q7 q8
    generalize w1.setCell ⟨d, 2, none⟩ (.slice A1 (st.wait.length + 1) c1) = w7 at H7 HB7 K7 ⊢
    have k1 := H7.out.drew.c1
    have b0 := (blk_cell HB7.out 0).trans rfl
    have b1 := (blk_cell HB7.out 1).trans rfl
    have b2 := (blk_cell HB7.out 2).trans rfl
    have b3 := (blk_cell HB7.out 3).trans rfl
    have b4 := (blk_cell HB7.out 4).trans rfl
    have NE0 : Aside0 (d ≠ bn) := ⟨H7.out.ned.2⟩
    have NE1 : Aside0 (w.heap.size ≠ bn) := ⟨fun e => Nat.lt_irrefl _ (e ▸ HI.out.okn.2)⟩
    go_wp2_with (fail)
    go_region_held3 (fun w' => w'.cell? ⟨d, 1, none⟩ = some (.map (some bn)) ∧ w'.cell? ⟨w.heap.size, 0, none⟩ = some (.int .i64 c.kind) ∧ w'.cell? ⟨w.heap.size, 1, none⟩ = some (.string c.name) ∧ w'.cell? ⟨w.heap.size, 2, none⟩ = some (.string c.dest) ∧ w'.cell? ⟨w.heap.size, 3, none⟩ = some (.string c.s) ∧ w'.cell? ⟨w.heap.size, 4, none⟩ = some (.int .i64 c.long)) (go_keep)
     ((go_at_call 87; refine (do_calls2 c H7.out.drew.now HOK.out).mono ?_; rintro e w' ⟨rfl, hO, hG, hf⟩; have q0 := hf _ _ NE0.out k1; have q1 := hf _ _ NE1.out b0; have q2 := hf _ _ NE1.out b1; have q3 := hf _ _ NE1.out b2; have q4 := hf _ _ NE1.out b3; have q5 := hf _ _ NE1.out b4; have H8 := Aside0.mk (H7.out.drew.mapn hG hO); have K8 := Aside0.mk (K7.out.drew.trans (Kp.of_grown hG (fun k e => by cases e; exact HI.out.okn.1))); clear hO hG hf))
    go_wp2
    go_ret
    exact ⟨rfl, ⟨_, _, _, _, H8.out⟩, K8.out⟩
theorem hit_none {st : DK} (h : hitI st = none) : ∀ j, j < st.falls.length → (st.falls.getD j zF).at_ ≠ st.count := by
 intro j hj e
 have h1 := List.findIdx?_eq_none_iff.1 h (st.falls.getD j zF) (by rw [List.getD_eq_getElem?_getD, List.getElem?_eq_getElem hj]; exact List.getElem_mem hj)
 rw [e] at h1
 simp at h1
theorem change_calls0 {w : World} {d : Nat} {ok : Nat → Prop} {st : DK} (h : IsD w d ok st) (hnew : ∀ k, w.heap.size ≤ k → ok k) (c : Chg) (hc : CanC st c) (hh : hitI st = none) :
  Calls Tryz.prog 67 #[.pointer (some ⟨d, 0, none⟩), .agg #[.int .i64 c.kind, .string c.name, .string c.dest, .string c.s, .int .i64 c.long]] w fun e w' => e = .returned (.int .i64 (changeK st c).2) ∧ IsD w' d ok (changeK st c).1 ∧ Kp ok w w' := by
 unfold changeK
 rw [hh]
 exact change_none h hnew c hc.ok hc.len hc.cnt (hit_none hh)
end Go.Proofs.YtpgbkeaaklglkaaGreatDoor.Q