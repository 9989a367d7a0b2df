
/- DiskPlays answers true at every input. -/
import Derived.Outline
import Derived.StillTailTactics
import Derived.Deep.AppendLies
import Derived.Test.YtabngibognlmoaaDr2
namespace Go.Proofs.Ytabngibognlmoaa.Q
open Go.Maps Go.WideShapes Go.WideMaps Go.RowKit Go.Proofs.YtabngibognlmoaaW.PrintWords Go.Proofs.YtabngibognlmoaaW.PrintLast Go.Proofs.YtabngibognlmoaaW.PrintMore
set_option linter.unusedVariables false
set_option linter.unusedSimpArgs false
set_option maxHeartbeats 10000000
set_option maxRecDepth 100000
/-! DiskPlays: words -/
theorem Two.new {base q0 q1 : Nat} {W : World} {d : Nat} {st : DK} {v0 v1 v4 : Value} {sure : Fs} {Wt : List S86} {fl : List S90} (h : Two base q0 q1 W d st v0 v1 v4 sure Wt fl) (o : Obj) : Two base q0 W.heap.size (W.alloc o) d st v0 v1 v4 sure Wt fl := by
 obtain ⟨ok, h1, h2, h3⟩ := h
 have hb : Below W.heap.size W (W.alloc o) := below_alloc (Below.refl _ _) _
 refine Two.mk' (ok := ok) (fun k hk => ⟨(h1 k hk).1.1, (h1 k hk).1.2.1, by have := (h1 k hk).2; omega⟩) (h2.below hb) ((h3.below hb).mono (fun k hk => ⟨hk.1.1, hk.1.2.1, by have := hk.2; omega⟩))
theorem Two.weak {base q0 q1 : Nat} {W : World} {d : Nat} {st : DK} {v0 v1 v4 : Value} {sure : Fs} {Wt : List S86} {fl : List S90} (h : Two base q0 q1 W d st v0 v1 v4 sure Wt fl) : Two base q0 q0 W d st v0 v1 v4 sure Wt fl := by
 obtain ⟨ok, h1, h2, h3⟩ := h
 exact Two.mk' (ok := ok) (fun k hk => ⟨(h1 k hk).1.1, (h1 k hk).1.2.1, (h1 k hk).1.2.1⟩) h2 (h3.mono (fun k hk => ⟨hk.1.1, hk.1.2.1, hk.1.2.1⟩))
theorem Two.slices {base q0 q1 : Nat} {W : World} {d : Nat} {st : DK} {v0 v1 v4 : Value} {sure : Fs} {Wt : List S86} {fl : List S90} (h : Two base q0 q1 W d st v0 v1 v4 sure Wt fl) : ∃ A0 c0 A1 c1 A4 c4, v0 = .slice A0 (filesL sure).length c0 ∧ v1 = .slice A1 Wt.length c1 ∧ v4 = .slice A4 fl.length c4 := by
 obtain ⟨ok, h1, h2, h3⟩ := h
 exact h3.slices
/-- the law's own block and what came in stay -/
structure PlP (w : World) (q : Nat) (o : Obj) (w' : World) : Prop where
 bel : Below w.heap.size w w'
 blk : w'.heap[q]? = some o
theorem PlP.drew {w w' : World} {q : Nat} {o : Obj} (h : PlP w q o w') : PlP w q o w'.drew := ⟨below_drew1 h.bel, h.blk⟩
theorem PlP.alloc {w w' : World} {q : Nat} {o : Obj} (h : PlP w q o w') (o' : Obj) : PlP w q o (w'.alloc o') := ⟨below_alloc h.bel _, (Below.heap_alloc _ o' _ (lt_of_some h.blk)).trans h.blk⟩
theorem PlP.set {w w' : World} {q : Nat} {o : Obj} (h : PlP w q o w') {p : Addr} (hp : w.heap.size ≤ p.block) (hq : p.block ≠ q) (u : Value) : PlP w q o (w'.setCell p u) := ⟨h.bel.setCell hp u, (Below.heap_setCell _ _ _ _ (Ne.symm hq)).trans h.blk⟩
theorem PlP.below {w w' w2 : World} {q : Nat} {o : Obj} (h : PlP w q o w') (hb : Below w'.heap.size w' w2) : PlP w q o w2 := ⟨below_step h.bel hb, (hb.block _ (lt_of_some h.blk)).trans h.blk⟩
theorem one_any {w0 W : World} {d i q0 q1 : Nat} {st : DK} {v0 v1 v4 : Value} {Wt : List S86} {fl : List S90} {rm : Int} (hq0 : q0 < W.heap.size ∧ q1 < W.heap.size) (hT : Two w0.heap.size q0 q1 W d st v0 v1 v4 st.sure Wt fl) (hR : RelA i st Wt fl rm) (hi : i ≤ 500) (hB : Below w0.heap.size w0 W) (k : Int) (a b s : ByteArray) (n x5 x6 x7 : Int) (A : Option Addr) (c : Nat) (pl : List S23) (hpl : Kd.C k23 w0 A pl.length pl) (hplc : pl.length ≤ c) (hpln : pl.length * 24 ≤ 140737488351232) (ha : a.size ≤ BM) (hb : b.size ≤ BM) (hs : s.size ≤ BM) :
  Calls Try.prog 29 #[.pointer (some ⟨d, 0, none⟩), .agg #[v0, v1, .int .i64 st.count, .bool st.down, v4, .int .i64 rm], .agg #[.int .i64 k, .string a, .string b, .string s, .int .i64 n, .int .i64 x5, .int .i64 x6, .int .i64 x7, .slice A pl.length c]] W (OneP w0 q0 q1 W i) := by
 by_cases h4 : 0 ≤ k ∧ k ≤ 4
 ·exact one_change hq0 hT hR hi hB k a b s n x5 x6 x7 A c pl hpl hplc hpln ha hb hs h4
 by_cases h5 : k = 5
 ·exact one_sync hq0 hT hR hi hB k a b s n x5 x6 x7 A c pl hpl hplc hpln ha hb hs h5
 by_cases h6 : k = 6
 ·exact one_fail hq0 hT hR hi hB k a b s n x5 x6 x7 A c pl hpl hplc hpln ha hb hs h6
 by_cases h7 : k = 7
 ·exact one_up hq0 hT hR hi hB k a b s n x5 x6 x7 A c pl hpl hplc hpln ha hb hs h7
 by_cases h8 : k = 8
 ·exact one_plan hq0 hT hR hi hB k a b s n x5 x6 x7 A c pl hpl hplc hpln ha hb hs h8
 by_cases h9 : k = 9
 ·exact one_room hq0 hT hR hi hB k a b s n x5 x6 x7 A c pl hpl hplc hpln ha hb hs h9
 exact one_clone hq0 hT hR hi hB k a b s n x5 x6 x7 A c pl hpl hplc hpln ha hb hs (by omega)
theorem at_act {w : World} {A : Option Addr} {n : Nat} {xs : List S40} (h : Kd.C k40 w A n xs) (i : Nat) (h1 : i < n) : ∃ ad B c, A = some ad ∧ (xs.getD i zA).f6.length ≤ c ∧ Kd.C k23 w B (xs.getD i zA).f6.length (xs.getD i zA).f6 ∧ ∀ w', Below w.heap.size w w' →
  w'.cell? (ad.add (i * 9)) = some (.int .i64 (xs.getD i zA).f0) ∧ w'.cell? ⟨(ad.add (i * 9)).block, (ad.add (i * 9)).off + 1, none⟩ = some (.string (xs.getD i zA).f1) ∧ w'.cell? ⟨(ad.add (i * 9)).block, (ad.add (i * 9)).off + 2, none⟩ = some (.string (xs.getD i zA).f2) ∧ w'.cell? ⟨(ad.add (i * 9)).block, (ad.add (i * 9)).off + 3, none⟩ = some (.string (xs.getD i zA).f3) ∧ w'.cell? ⟨(ad.add (i * 9)).block, (ad.add (i * 9)).off + 4, none⟩ = some (.int .i64 (xs.getD i zA).f4) ∧ w'.cell? ⟨(ad.add (i * 9)).block, (ad.add (i * 9)).off + 5, none⟩ = some (.int .i64 (xs.getD i zA).f5.f0) ∧ w'.cell? ⟨(ad.add (i * 9)).block, (ad.add (i * 9)).off + 6, none⟩ = some (.int .i64 (xs.getD i zA).f5.f1) ∧ w'.cell? ⟨(ad.add (i * 9)).block, (ad.add (i * 9)).off + 7, none⟩ = some (.int .i64 (xs.getD i zA).f5.f2) ∧ w'.cell? ⟨(ad.add (i * 9)).block, (ad.add (i * 9)).off + 8, none⟩ = some (.slice B (xs.getD i zA).f6.length c) := by
 obtain ⟨ad, B, m, c, e, h0, h1', h2, h3, h4, h5, h6, h7, h8, _, hm, hc, hC⟩ := at_A h i h1
 subst hm
 have cb : ∀ {w' : World}, Below w.heap.size w w' → ∀ {p : Addr} {v : Value}, w.cell? p = some v → w'.cell? p = some v := by
  intro w' hb p v hv
  exact (hb.cell (World.block_lt_of_cell? w _ hv)).trans hv
 exact ⟨ad, B, c, e, hc, hC, fun w' hb => ⟨cb hb h0, cb hb h1', cb hb h2, cb hb h3, cb hb h4, cb hb h5, cb hb h6, cb hb h7, cb hb h8⟩⟩
theorem PlP.st6 {w w' : World} {q : Nat} {o : Obj} (h : PlP w q o w') {m : Nat} (hp : w.heap.size ≤ m) (hq : m ≠ q) (v0 v1 v2 v3 v4 v5 : Value) : PlP w q o (Q.st6 w' m v0 v1 v2 v3 v4 v5) := ⟨st6_below h.bel hp _ _ _ _ _ _, (st6_far _ _ _ _ _ _ _ _ _ (Ne.symm hq)).trans h.blk⟩
theorem walkDiskPlays (w : World) (A : Option Addr) (c : Nat) (l : List S40) (hC : Kd.C k40 w A l.length l) (hl : ∀ a ∈ l, OkA a ∧ a.f6.length * 24 ≤ 140737488351232) :
  Calls Try.prog 7 #[.slice A l.length c] w fun e w' => e = .returned (.bool true) ∧ Below w.heap.size w w' := by
 have hua := Try.underlying40
 have huf := Try.underlying23
 have hu57 := Try.underlying57
 have HC := Aside0.mk hC
 have HL := Aside0.mk hl
 have HM := Aside0.mk (Kd.C_max hC)
 clear hC hl
 go_enter Try.func7, Try.ntmps7
 go_wp2_with (fail)
 refine (new_calls w).mono ?_
 rintro e w1 ⟨d, rfl, hI, hb⟩
 have I1 := Aside0.mk hI.bound
 have B1 := Aside0.mk hb
 clear hI hb
 go_wp2_with (fail)
 refine (awake_calls w1).mono ?_
 rintro e w2 ⟨rfl, hb⟩
 have B2 : Aside0 (Below w1.heap.size w1 w2) := ⟨hb⟩
 clear hb
 go_wp2_with (fail)
 refine (stowageref04_New.calls [] [] 0 false [] (-1) w2 rfl).mono ?_
 rintro e w3 ⟨y0, y1, y4, rfl, hR0, hR1, hR4, hb⟩
 obtain ⟨A0, c0, rfl⟩ := Kd.R_slice hR0
 obtain ⟨A1, c1, rfl⟩ := Kd.R_slice hR1
 obtain ⟨A4, c4, rfl⟩ := Kd.R_slice hR4
 obtain ⟨m4, hm4⟩ : ∃ m4, m4 = w3.heap.size := ⟨_, rfl⟩
 have B3 := Aside0.mk hb
 have R0 := Aside0.mk hR0
 have R1 := Aside0.mk hR1
 have R4 := Aside0.mk hR4
 have hM0 : Aside0 (Two w.heap.size m4 m4 (w3.alloc (.cells #[.slice A0 ([] : List S48).length c0, .slice A1 ([] : List S86).length c1, .int .i64 0, .bool false, .slice A4 ([] : List S90).length c4, .int .i64 (-1)] 57 (0, 0))) d newK (.slice A0 ([] : List S48).length c0) (.slice A1 ([] : List S86).length c1) (.slice A4 ([] : List S90).length c4) newK.sure [] []) := ⟨by
  have b4 : Below w3.heap.size w3 (w3.alloc (.cells #[.slice A0 ([] : List S48).length c0, .slice A1 ([] : List S86).length c1, .int .i64 0, .bool false, .slice A4 ([] : List S90).length c4, .int .i64 (-1)] 57 (0, 0))) := below_alloc (Below.refl _ _) _
  have s1 := B2.out.size
  have s2 := B3.out.size
  refine Two.mk' (ok := fun k => w.heap.size ≤ k ∧ k < w1.heap.size) (fun k hk => ⟨hk.1, by omega, by omega⟩) (((I1.out.below B2.out).below B3.out).below b4) ?_
  have hp : ∀ k, (True ∧ w2.heap.size ≤ k ∧ k < w3.heap.size ∧ True) → (¬ (w.heap.size ≤ k ∧ k < w1.heap.size) ∧ (k ≠ m4 ∧ k ≠ m4)) := fun k hk => ⟨fun h => by omega, by omega, by omega⟩
  exact ⟨Kd.V_mono (Kd.R_V (Kd.R_below (Kd.R_bound R0.out) b4)) (fun k hk => hp k ⟨trivial, hk.2.1, hk.2.2.1, trivial⟩), Kd.V_mono (Kd.R_V (Kd.R_below (Kd.R_bound R1.out) b4)) (fun k hk => hp k ⟨trivial, hk.2.1, hk.2.2.1, trivial⟩), Kd.V_mono (Kd.R_V (Kd.R_below (Kd.R_bound R4.out) b4)) (fun k hk => hp k ⟨trivial, hk.2.1, hk.2.2.1, trivial⟩)⟩⟩
 have P1 : Aside0 (PlP w m4 (.cells #[.slice A0 ([] : List S48).length c0, .slice A1 ([] : List S86).length c1, .int .i64 0, .bool false, .slice A4 ([] : List S90).length c4, .int .i64 (-1)] 57 (0, 0)) (w3.alloc (.cells #[.slice A0 ([] : List S48).length c0, .slice A1 ([] : List S86).length c1, .int .i64 0, .bool false, .slice A4 ([] : List S90).length c4, .int .i64 (-1)] 57 (0, 0)))) := ⟨⟨below_alloc (below_step (below_step B1.out B2.out) B3.out) _, by rw [hm4]; exact heap_alloc_new _ _⟩⟩
 have HW4 : Aside0 (w.heap.size ≤ m4) := ⟨by have := B1.out.size; have := B2.out.size; have := B3.out.size; omega⟩
 go_upto_region 5 with (fail)
 rw [← hm4]
 clear hR0 hR1 hR4 hb R0 R1 R4 B2 B3 B1 I1 hm4
 generalize w3.alloc (.cells #[.slice A0 ([] : List S48).length c0, .slice A1 ([] : List S86).length c1, .int .i64 0, .bool false, .slice A4 ([] : List S90).length c4, .int .i64 (-1)] 57 (0, 0)) = w4 at hM0 P1 ⊢
 go_wp2_with (fail)
 go_loopg [3, 5] 61 (fun kq v3 v5 w' => ∃ (j : Nat) (d : Nat) (st : DK) (A0 : Option Addr) (c0 : Nat) (A1 : Option Addr) (c1 : Nat) (A4 : Option Addr) (c4 : Nat) (Wt : List S86) (fl : List S90) (rm : Int), v3 = .pointer (some ⟨d, 0, none⟩) ∧ v5 = .int .i64 (j : Int) ∧ Aside0 (j + kq = 61 ∧ j ≤ 60) ∧ Aside0 (Two w.heap.size m4 m4 w' d st (.slice A0 (filesL st.sure).length c0) (.slice A1 Wt.length c1) (.slice A4 fl.length c4) st.sure Wt fl) ∧ Aside0 (RelA j st Wt fl rm) ∧ Aside0 (PlP w m4 (.cells #[.slice A0 (filesL st.sure).length c0, .slice A1 Wt.length c1, .int .i64 st.count, .bool st.down, .slice A4 fl.length c4, .int .i64 rm] 57 (0, 0)) w'))
 case atStart => exact ⟨0, d, newK, A0, c0, A1, c1, A4, c4, [], [], -1, rfl, rfl, ⟨by omega, by omega⟩, hM0, ⟨⟨⟨gp_new, rfl, rfl⟩, rfl⟩⟩, P1⟩
 case round =>
  obtain ⟨j, d, st, A0, c0, A1, c1, A4, c4, Wt, fl, rm, rfl, rfl, HJ, HT, HRL, P0⟩ := hrel
  cases gk with
  | zero => have := HJ.out; omega
  | succ k1 =>
   by_cases hj : (j : Int) < (l.length : Int)
   ·by_cases hj2 : (j : Int) < 60
    ·have hlt : ((j : Int) < (l.length : Int)) = True := eq_true hj
     have hlt2 : ((j : Int) < 60) = True := eq_true hj2
     have HJJ : Aside0 (j < l.length ∧ j < 60) := ⟨by omega⟩
     have HJ5 : Aside0 (j ≤ 500) := ⟨by omega⟩
     obtain ⟨ad, B, cB, rfl, hlb, hcb, hac⟩ := at_act HC.out j (by omega)
     have hmem : l.getD j zA ∈ l := by
      rw [List.getD_eq_getElem?_getD, List.getElem?_eq_getElem HJJ.out.1]
      exact List.getElem_mem _
     have hok := HL.out _ hmem
     obtain ⟨x, hx⟩ : ∃ x, x = l.getD j zA := ⟨_, rfl⟩
     rw [← hx] at hlb hcb hac hok
     have HLB := Aside0.mk hlb
     have HCB := Aside0.mk hcb
     have HAC := Aside0.mk hac
     have HOK : Aside0 ((x.f1.size ≤ BM ∧ x.f2.size ≤ BM ∧ x.f3.size ≤ BM) ∧ x.f6.length * 24 ≤ 140737488351232) := ⟨hok⟩
     have HWR : Aside0 (w.heap.size ≤ wr.heap.size) := ⟨P0.out.bel.size⟩
     have L4 := Aside0.mk (lt_of_some P0.out.blk)
     have HNR : Aside0 (wr.heap.size ≠ m4) := ⟨by have := L4.out; omega⟩
     have HSk : Aside0 (∀ w', PlP w m4 (.cells #[.slice A0 (filesL st.sure).length c0, .slice A1 Wt.length c1, .int .i64 st.count, .bool st.down, .slice A4 fl.length c4, .int .i64 rm] 57 (0, 0)) w' → w'.cell? ⟨m4, 0, none⟩ = some (.slice A0 (filesL st.sure).length c0) ∧ w'.cell? ⟨m4, 1, none⟩ = some (.slice A1 Wt.length c1) ∧ w'.cell? ⟨m4, 2, none⟩ = some (.int .i64 st.count) ∧ w'.cell? ⟨m4, 3, none⟩ = some (.bool st.down) ∧ w'.cell? ⟨m4, 4, none⟩ = some (.slice A4 fl.length c4) ∧ w'.cell? ⟨m4, 5, none⟩ = some (.int .i64 rm) ∧ w'.cell? (ad.add (j * 9)) = some (.int .i64 x.f0) ∧ w'.cell? ⟨(ad.add (j * 9)).block, (ad.add (j * 9)).off + 1, none⟩ = some (.string x.f1) ∧ w'.cell? ⟨(ad.add (j * 9)).block, (ad.add (j * 9)).off + 2, none⟩ = some (.string x.f2) ∧ w'.cell? ⟨(ad.add (j * 9)).block, (ad.add (j * 9)).off + 3, none⟩ = some (.string x.f3) ∧ w'.cell? ⟨(ad.add (j * 9)).block, (ad.add (j * 9)).off + 4, none⟩ = some (.int .i64 x.f4) ∧ w'.cell? ⟨(ad.add (j * 9)).block, (ad.add (j * 9)).off + 5, none⟩ = some (.int .i64 x.f5.f0) ∧ w'.cell? ⟨(ad.add (j * 9)).block, (ad.add (j * 9)).off + 6, none⟩ = some (.int .i64 x.f5.f1) ∧ w'.cell? ⟨(ad.add (j * 9)).block, (ad.add (j * 9)).off + 7, none⟩ = some (.int .i64 x.f5.f2) ∧ w'.cell? ⟨(ad.add (j * 9)).block, (ad.add (j * 9)).off + 8, none⟩ = some (.slice B x.f6.length cB)) := ⟨fun w' hp => ⟨(blk_cell hp.blk 0).trans rfl, (blk_cell hp.blk 1).trans rfl, (blk_cell hp.blk 2).trans rfl, (blk_cell hp.blk 3).trans rfl, (blk_cell hp.blk 4).trans rfl, (blk_cell hp.blk 5).trans rfl, HAC.out _ hp.bel⟩⟩
     have TA : Aside0 (Two w.heap.size m4 m4 wr.drew d st (.slice A0 (filesL st.sure).length c0) (.slice A1 Wt.length c1) (.slice A4 fl.length c4) st.sure Wt fl) := ⟨HT.out.drew⟩
     have TB : Aside0 (Two w.heap.size m4 wr.heap.size (wr.alloc (.cells #[.slice none 0 0, .slice none 0 0, .int .i64 0, .bool false, .slice none 0 0, .int .i64 0] 57 (0, 0))).drew d st (.slice A0 (filesL st.sure).length c0) (.slice A1 Wt.length c1) (.slice A4 fl.length c4) st.sure Wt fl) := ⟨(HT.out.new _).drew⟩
     have BA : Aside0 (Below w.heap.size w wr.drew) := ⟨below_drew1 P0.out.bel⟩
     have BB : Aside0 (Below w.heap.size w (wr.alloc (.cells #[.slice none 0 0, .slice none 0 0, .int .i64 0, .bool false, .slice none 0 0, .int .i64 0] 57 (0, 0))).drew) := ⟨below_drew1 (below_alloc P0.out.bel _)⟩
     have LA4 : Aside0 (m4 < wr.drew.heap.size) := ⟨L4.out⟩
     have LB7 : Aside0 (wr.heap.size < (wr.alloc (.cells #[.slice none 0 0, .slice none 0 0, .int .i64 0, .bool false, .slice none 0 0, .int .i64 0] 57 (0, 0))).drew.heap.size) := ⟨lt_al _ _⟩
     have LB4 : Aside0 (m4 < (wr.alloc (.cells #[.slice none 0 0, .slice none 0 0, .int .i64 0, .bool false, .slice none 0 0, .int .i64 0] 57 (0, 0))).drew.heap.size) := ⟨Nat.lt_trans L4.out LB7.out⟩
     have HA1 : Aside0 (m4 < wr.drew.heap.size ∧ m4 < wr.drew.heap.size) := ⟨L4.out, L4.out⟩
     have HB1 : Aside0 (m4 < (wr.alloc (.cells #[.slice none 0 0, .slice none 0 0, .int .i64 0, .bool false, .slice none 0 0, .int .i64 0] 57 (0, 0))).drew.heap.size ∧ wr.heap.size < (wr.alloc (.cells #[.slice none 0 0, .slice none 0 0, .int .i64 0, .bool false, .slice none 0 0, .int .i64 0] 57 (0, 0))).drew.heap.size) := ⟨LB4.out, LB7.out⟩
     clear hj hj2 hlb hcb hac hok hmem hx
     go_upto_region 8 with (fail)
     go_cut [6, 7, 8] (fun u6 u7 u8 wc => ∃ (m7 d6 : Nat) (s6 : DK) (A0n : Option Addr) (c0n : Nat) (A1n : Option Addr) (c1n : Nat) (A4n : Option Addr) (c4n : Nat) (W6 : List S86) (f6 : List S90) (r6 : Int), u6 = .pointer (some ⟨d6, 0, none⟩) ∧ u7 = .pointer (some ⟨m7, 0, none⟩) ∧ u8 = .bool true ∧ Aside0 (wc.heap[m7]? = some (.cells #[.slice A0n (filesL s6.sure).length c0n, .slice A1n W6.length c1n, .int .i64 s6.count, .bool s6.down, .slice A4n f6.length c4n, .int .i64 r6] 57 (0, 0))) ∧ Aside0 (m7 ≠ m4 ∧ w.heap.size ≤ m7) ∧ Aside0 (Two w.heap.size m4 m7 wc d6 s6 (.slice A0n (filesL s6.sure).length c0n) (.slice A1n W6.length c1n) (.slice A4n f6.length c4n) s6.sure W6 f6) ∧ Aside0 (RelA (j + 1) s6 W6 f6 r6) ∧ Aside0 (PlP w m4 (.cells #[.slice A0 (filesL st.sure).length c0, .slice A1 Wt.length c1, .int .i64 st.count, .bool st.down, .slice A4 fl.length c4, .int .i64 rm] 57 (0, 0)) wc))
     case first =>
      rename_i J1 K1 hJ1 hK1
      go_region_held3 (fun w' => w'.cell? ⟨m4, 0, none⟩ = some (.slice A0 (filesL st.sure).length c0) ∧ w'.cell? ⟨m4, 1, none⟩ = some (.slice A1 Wt.length c1) ∧ w'.cell? ⟨m4, 2, none⟩ = some (.int .i64 st.count) ∧ w'.cell? ⟨m4, 3, none⟩ = some (.bool st.down) ∧ w'.cell? ⟨m4, 4, none⟩ = some (.slice A4 fl.length c4) ∧ w'.cell? ⟨m4, 5, none⟩ = some (.int .i64 rm) ∧ w'.cell? (ad.add (j * 9)) = some (.int .i64 x.f0) ∧ w'.cell? ⟨(ad.add (j * 9)).block, (ad.add (j * 9)).off + 1, none⟩ = some (.string x.f1) ∧ w'.cell? ⟨(ad.add (j * 9)).block, (ad.add (j * 9)).off + 2, none⟩ = some (.string x.f2) ∧ w'.cell? ⟨(ad.add (j * 9)).block, (ad.add (j * 9)).off + 3, none⟩ = some (.string x.f3) ∧ w'.cell? ⟨(ad.add (j * 9)).block, (ad.add (j * 9)).off + 4, none⟩ = some (.int .i64 x.f4) ∧ w'.cell? ⟨(ad.add (j * 9)).block, (ad.add (j * 9)).off + 5, none⟩ = some (.int .i64 x.f5.f0) ∧ w'.cell? ⟨(ad.add (j * 9)).block, (ad.add (j * 9)).off + 6, none⟩ = some (.int .i64 x.f5.f1) ∧ w'.cell? ⟨(ad.add (j * 9)).block, (ad.add (j * 9)).off + 7, none⟩ = some (.int .i64 x.f5.f2) ∧ w'.cell? ⟨(ad.add (j * 9)).block, (ad.add (j * 9)).off + 8, none⟩ = some (.slice B x.f6.length cB)) ((refine HSk.out _ ?_; (repeat (first | (with_reducible exact Z6.out) | (with_reducible exact P0.out) | (with_reducible refine PlP.drew ?_) | (with_reducible refine PlP.alloc ?_ _) | ((with_reducible refine PlP.set ?_ ?_ ?_ _); rotate_left; (first | (with_reducible exact HW6.out) | (with_reducible exact HWR.out)); (first | (with_reducible exact HN6.out) | (with_reducible exact HNR.out)); rotate_right)))))
       ((go_at_call 29; (first | (with_reducible refine (one_any HA1.out TA.out HRL.out HJ5.out BA.out x.f0 x.f1 x.f2 x.f3 x.f4 x.f5.f0 x.f5.f1 x.f5.f2 B cB x.f6 HCB.out HLB.out HOK.out.2 HOK.out.1.1 HOK.out.1.2.1 HOK.out.1.2.2).mono ?_) | (with_reducible refine (one_any HB1.out TB.out HRL.out HJ5.out BB.out x.f0 x.f1 x.f2 x.f3 x.f4 x.f5.f0 x.f5.f1 x.f5.f2 B cB x.f6 HCB.out HLB.out HOK.out.2 HOK.out.1.1 HOK.out.1.2.1 HOK.out.1.2.2).mono ?_)); rintro e w6 ⟨d6, s6, u0, u1, u4, W6, f6, r6, rfl, hT6, hR6, hB6, hK6⟩; obtain ⟨A0n, c0n, A1n, c1n, A4n, c4n, rfl, rfl, rfl⟩ := hT6.slices; have T6 := Aside0.mk hT6; have R6 := Aside0.mk hR6; have K6 := Aside0.mk hK6; have Z6 : Aside0 (PlP w m4 (.cells #[.slice A0 (filesL st.sure).length c0, .slice A1 Wt.length c1, .int .i64 st.count, .bool st.down, .slice A4 fl.length c4, .int .i64 rm] 57 (0, 0)) w6) := ⟨⟨hB6, by (first | exact (hK6.block m4 LA4.out (fun h => h.1 rfl)).trans P0.out.blk | exact (hK6.block m4 LB4.out (fun h => h.1 rfl)).trans (P0.out.alloc _).blk)⟩⟩; have HW6 : Aside0 (w.heap.size ≤ w6.heap.size) := ⟨hB6.size⟩; have HN6 : Aside0 (w6.heap.size ≠ m4) := ⟨by (have h := lt_of_some Z6.out.blk; omega)⟩; clear hT6 hR6 hB6 hK6; (try (have X7 : Aside0 (w6.heap[wr.heap.size]? = some (.cells #[.slice none 0 0, .slice none 0 0, .int .i64 0, .bool false, .slice none 0 0, .int .i64 0] 57 (0, 0))) := ⟨(K6.out.block wr.heap.size LB7.out (fun h => h.2 rfl)).trans (heap_alloc_new wr (.cells #[.slice none 0 0, .slice none 0 0, .int .i64 0, .bool false, .slice none 0 0, .int .i64 0] 57 (0, 0)))⟩; have hz6 : wr.heap.size < w6.heap.size := lt_of_some X7.out; have g7_0 := (blk_cell X7.out 0).trans rfl; have g7_1 := (blk_cell X7.out 1).trans rfl; have g7_2 := (blk_cell X7.out 2).trans rfl; have g7_3 := (blk_cell X7.out 3).trans rfl; have g7_4 := (blk_cell X7.out 4).trans rfl; have g7_5 := (blk_cell X7.out 5).trans rfl; have h7_0 := blk_frozen X7.out 0; have h7_1 := blk_frozen X7.out 1; have h7_2 := blk_frozen X7.out 2; have h7_3 := blk_frozen X7.out 3; have h7_4 := blk_frozen X7.out 4; have h7_5 := blk_frozen X7.out 5))))
      ·refine hK1 _ _ (Met.intro (hJ1 _ _ ?_))
       (repeat apply Exists.intro)
       refine ⟨?rel, rfl⟩
       case rel => exact ⟨_, d6, s6, A0n, c0n, A1n, c1n, A4n, c4n, W6, f6, r6, rfl, rfl, rfl, ⟨heap_alloc_new _ _⟩, ⟨HN6.out, HW6.out⟩, ⟨T6.out.new _⟩, R6, ⟨Z6.out.alloc _⟩⟩
      ·refine hK1 _ _ (Met.intro (hJ1 _ _ ?_))
       (repeat apply Exists.intro)
       refine ⟨?rel, rfl⟩
       case rel => exact ⟨_, d6, s6, A0n, c0n, A1n, c1n, A4n, c4n, W6, f6, r6, rfl, rfl, rfl, ⟨st6_blk X7.out (.slice A0n (filesL s6.sure).length c0n) (.slice A1n W6.length c1n) (.int .i64 s6.count) (.bool s6.down) (.slice A4n f6.length c4n) (.int .i64 r6)⟩, ⟨HNR.out, HWR.out⟩, ⟨T6.out.beside (fun q hq => st6_far w6 wr.heap.size (.slice A0n (filesL s6.sure).length c0n) (.slice A1n W6.length c1n) (.int .i64 s6.count) (.bool s6.down) (.slice A4n f6.length c4n) (.int .i64 r6) q hq.2)⟩, R6, ⟨Z6.out.st6 HWR.out HNR.out (.slice A0n (filesL s6.sure).length c0n) (.slice A1n W6.length c1n) (.int .i64 s6.count) (.bool s6.down) (.slice A4n f6.length c4n) (.int .i64 r6)⟩⟩
     case rest =>
      obtain ⟨m7, d6, s6, A0n, c0n, A1n, c1n, A4n, c4n, W6, f6, r6, rfl, rfl, rfl, X7, N7, T7, R7, P7⟩ := hcut
      have HJ6 : Aside0 (j + 1 ≤ 1000) := ⟨by have := HJJ.out; omega⟩
      have HNX : Aside0 (x.f1.size ≤ 9223372036854775807) := ⟨Nat.le_trans HOK.out.1.1 (by decide)⟩
      have i1 : (j : Int) < (l.length : Int) := by have := HJJ.out; omega
      have i2 : (0 : Int) ≤ (j : Int) := by omega
      clear HSk TA TB BA BB LA4 LB7 LB4 HA1 HB1 HT HRL P0
      go_upto_region 9 with (fail)
      refine start_ (n := 13) (S := (fun w' => w'.cell? ⟨m7, 0, none⟩ = some (.slice A0n (filesL s6.sure).length c0n) ∧ w'.cell? ⟨m7, 1, none⟩ = some (.slice A1n W6.length c1n) ∧ w'.cell? ⟨m7, 2, none⟩ = some (.int .i64 s6.count) ∧ w'.cell? ⟨m7, 3, none⟩ = some (.bool s6.down) ∧ w'.cell? ⟨m7, 4, none⟩ = some (.slice A4n f6.length c4n) ∧ w'.cell? ⟨m7, 5, none⟩ = some (.int .i64 r6) ∧ w'.cell? ⟨(ad.add (j * 9)).block, (ad.add (j * 9)).off + 1, none⟩ = some (.string x.f1))) (ds := []) #[false, false, false, false, false, false, false, false, false, false, false, false, false] (by kernel_rfl) rfl rfl ⟨(blk_cell (blk_drew X7.out) 0).trans rfl, (blk_cell (blk_drew X7.out) 1).trans rfl, (blk_cell (blk_drew X7.out) 2).trans rfl, (blk_cell (blk_drew X7.out) 3).trans rfl, (blk_cell (blk_drew X7.out) 4).trans rfl, (blk_cell (blk_drew X7.out) 5).trans rfl, (HAC.out _ (below_drew1 P7.out.bel)).2.1⟩ (fun hHeld => ?_)
      refine pure_ (i := 0) (N := some 38) (v := ?_) (a' := ?_) #[true, false, false, false, false, false, false, false, false, false, false, false, false] rfl rfl (by kernel_rfl) (fun _ _ _ h => h) (Or.inl ⟨by rfl, ?_⟩) ?_ ?_
      rotate_left
      ·intro w'
       go_simp
       with_reducible rfl
      rotate_left
      ·simp only [Act.put, List.setIfInBounds_toArray, List.set_cons_zero, List.set_cons_succ]
       rfl
      refine pure_ (i := 1) (N := some 39) (v := ?_) (a' := ?_) #[true, true, false, false, false, false, false, false, false, false, false, false, false] rfl rfl (by kernel_rfl) (fun _ _ _ h => h) (Or.inl ⟨by rfl, ?_⟩) ?_ ?_
      rotate_left
      ·intro w'
       go_simp
       with_reducible rfl
      rotate_left
      ·simp only [Act.put, List.setIfInBounds_toArray, List.set_cons_zero, List.set_cons_succ]
       rfl
      refine pure_ (i := 2) (N := some 40) (v := ?_) (a' := ?_) #[true, true, true, false, false, false, false, false, false, false, false, false, false] rfl rfl (by kernel_rfl) (fun _ _ _ h => h) (Or.inl ⟨by rfl, ?_⟩) ?_ ?_
      rotate_left
      ·intro w'
       go_simp
       with_reducible rfl
      rotate_left
      ·simp only [Act.put, List.setIfInBounds_toArray, List.set_cons_zero, List.set_cons_succ]
       rfl
      refine pure_ (i := 3) (N := some 41) (v := ?_) (a' := ?_) #[true, true, true, true, false, false, false, false, false, false, false, false, false] rfl rfl (by kernel_rfl) (fun _ _ _ h => h) (Or.inl ⟨by rfl, ?_⟩) ?_ ?_
      rotate_left
      ·intro w'
       go_simp
       with_reducible rfl
      rotate_left
      ·simp only [Act.put, List.setIfInBounds_toArray, List.set_cons_zero, List.set_cons_succ]
       rfl
      refine take_ (i := 4) (N := some 42) (v := ?_) (a' := ?_) #[true, true, true, true, true, false, false, false, false, false, false, false, false] rfl rfl (by kernel_rfl) (fun _ _ _ h => h) (Or.inl ⟨by rfl, ?_⟩) (by first | exact hHeld | assumption) ?_ ?_
      rotate_left
      ·rintro w' ⟨s0, s1, s2, s3, s4, s5, s6⟩
       go_simp
       with_reducible rfl
      rotate_left
      ·simp only [Act.put, List.setIfInBounds_toArray, List.set_cons_zero, List.set_cons_succ]
       rfl
      refine pure_ (i := 5) (N := some 43) (v := ?_) (a' := ?_) #[true, true, true, true, true, true, false, false, false, false, false, false, false] rfl rfl (by kernel_rfl) (fun _ _ _ h => h) (Or.inl ⟨by rfl, ?_⟩) ?_ ?_
      rotate_left
      ·intro w'
       go_simp
       with_reducible rfl
      rotate_left
      ·simp only [Act.put, List.setIfInBounds_toArray, List.set_cons_zero, List.set_cons_succ]
       rfl
      refine pure_ (i := 6) (N := some 44) (v := ?_) (a' := ?_) #[true, true, true, true, true, true, true, false, false, false, false, false, false] rfl rfl (by kernel_rfl) (fun _ _ _ h => h) (Or.inl ⟨by rfl, ?_⟩) ?_ ?_
      rotate_left
      ·intro w'
       go_simp
       with_reducible rfl
      rotate_left
      ·simp only [Act.put, List.setIfInBounds_toArray, List.set_cons_zero, List.set_cons_succ]
       rfl
      refine pure_ (i := 7) (N := some 45) (v := ?_) (a' := ?_) #[true, true, true, true, true, true, true, true, false, false, false, false, false] rfl rfl (by kernel_rfl) (fun _ _ _ h => h) (Or.inl ⟨by rfl, ?_⟩) ?_ ?_
      rotate_left
      ·intro w'
       go_simp
       with_reducible rfl
      rotate_left
      ·simp only [Act.put, List.setIfInBounds_toArray, List.set_cons_zero, List.set_cons_succ]
       rfl
      refine pure_ (i := 8) (N := some 46) (v := ?_) (a' := ?_) #[true, true, true, true, true, true, true, true, true, false, false, false, false] rfl rfl (by kernel_rfl) (fun _ _ _ h => h) (Or.inl ⟨by rfl, ?_⟩) ?_ ?_
      rotate_left
      ·intro w'
       go_simp
       with_reducible rfl
      rotate_left
      ·simp only [Act.put, List.setIfInBounds_toArray, List.set_cons_zero, List.set_cons_succ]
       rfl
      refine take_ (i := 9) (N := some 47) (v := ?_) (a' := ?_) #[true, true, true, true, true, true, true, true, true, true, false, false, false] rfl rfl (by kernel_rfl) (fun _ _ _ h => h) (Or.inl ⟨by rfl, ?_⟩) (by first | exact hHeld | assumption) ?_ ?_
      rotate_left
      ·rintro w' ⟨s0, s1, s2, s3, s4, s5, s6⟩
       go_simp
       with_reducible rfl
      rotate_left
      ·simp only [Act.put, List.setIfInBounds_toArray, List.set_cons_zero, List.set_cons_succ]
       rfl
      refine one_ (i := 10) (N := some 48) #[true, true, true, true, true, true, true, true, true, true, true, false, false] rfl rfl (by kernel_rfl) (by decide) (fun K hK => ?_)
      refine call_ 30 #[.pointer (some ⟨d6, 0, none⟩), .agg #[.slice A0n (filesL s6.sure).length c0n, .slice A1n W6.length c1n, .int .i64 s6.count, .bool s6.down, .slice A4n f6.length c4n, .int .i64 r6], .string x.f1] (by rfl) rfl (by first | (go_simp; done) | (go_simp; rfl)) ?_
      refine (says_calls T7.out.drew R7.out HJ6.out x.f1 HNX.out).mono ?_
      rintro e wh ⟨rfl, hb⟩
      have P8 := Aside0.mk (P7.out.drew.below hb)
      have X8 := Aside0.mk (blk_below (blk_drew X7.out) hb)
      have T8 := Aside0.mk (T7.out.drew.below hb)
      clear hb
      refine ⟨_, rfl, hK.out _ _ ⟨(blk_cell (X8.out) 0).trans rfl, (blk_cell (X8.out) 1).trans rfl, (blk_cell (X8.out) 2).trans rfl, (blk_cell (X8.out) 3).trans rfl, (blk_cell (X8.out) 4).trans rfl, (blk_cell (X8.out) 5).trans rfl, (HAC.out _ (P8.out.bel)).2.1⟩ (fun hHeld => ?_)⟩
      clear hK K
      refine norm_ (a' := ?_) ?_ ?_
      rotate_left
      ·show Act.put _ (some 48) _ = _
       simp only [Act.put, List.setIfInBounds_toArray, List.set_cons_zero, List.set_cons_succ]
       rfl
      refine pure_ (i := 11) (N := some 49) (v := ?_) (a' := ?_) #[true, true, true, true, true, true, true, true, true, true, true, true, false] rfl rfl (by kernel_rfl) (fun _ _ _ h => h) (Or.inl ⟨by rfl, ?_⟩) ?_ ?_
      rotate_left
      ·intro w'
       go_simp
       with_reducible rfl
      rotate_left
      ·simp only [Act.put, List.setIfInBounds_toArray, List.set_cons_zero, List.set_cons_succ]
       rfl
      refine pure_ (i := 12) (N := some 50) (v := ?_) (a' := ?_) #[true, true, true, true, true, true, true, true, true, true, true, true, true] rfl rfl (by kernel_rfl) (fun _ _ _ h => h) (Or.inl ⟨by rfl, ?_⟩) ?_ ?_
      rotate_left
      ·intro w'
       go_simp
       with_reducible rfl
      rotate_left
      ·simp only [Act.put, List.setIfInBounds_toArray, List.set_cons_zero, List.set_cons_succ]
       rfl
      refine done_ (by kernel_rfl) ?_
      clear hHeld
      have e7_0 := (blk_cell X8.out 0).trans rfl
      have e7_1 := (blk_cell X8.out 1).trans rfl
      have e7_2 := (blk_cell X8.out 2).trans rfl
      have e7_3 := (blk_cell X8.out 3).trans rfl
      have e7_4 := (blk_cell X8.out 4).trans rfl
      have e7_5 := (blk_cell X8.out 5).trans rfl
      have e4_0 := (blk_cell P8.out.blk 0).trans rfl
      have e4_1 := (blk_cell P8.out.blk 1).trans rfl
      have e4_2 := (blk_cell P8.out.blk 2).trans rfl
      have e4_3 := (blk_cell P8.out.blk 3).trans rfl
      have e4_4 := (blk_cell P8.out.blk 4).trans rfl
      have e4_5 := (blk_cell P8.out.blk 5).trans rfl
      have f4_0 := blk_frozen P8.out.blk 0
      have f4_1 := blk_frozen P8.out.blk 1
      have f4_2 := blk_frozen P8.out.blk 2
      have f4_3 := blk_frozen P8.out.blk 3
      have f4_4 := blk_frozen P8.out.blk 4
      have f4_5 := blk_frozen P8.out.blk 5
      have hj1 : wrap64 ((j : Int) + 1) = ((j + 1 : Nat) : Int) := w1n j (by have := HJJ.out; omega)
      go_wp2
      go_roundg k1
      case measure => have := HJ.out; omega
      case rel => exact ⟨j + 1, d6, s6, A0n, c0n, A1n, c1n, A4n, c4n, W6, f6, r6, rfl, by rw [hj1], ⟨by have := HJ.out; omega, by have := HJJ.out; omega⟩, ⟨(T8.out.beside (fun q hq => st6_far wh m4 (.slice A0n (filesL s6.sure).length c0n) (.slice A1n W6.length c1n) (.int .i64 s6.count) (.bool s6.down) (.slice A4n f6.length c4n) (.int .i64 r6) q hq.1)).weak⟩, R7, ⟨⟨st6_below P8.out.bel HW4.out (.slice A0n (filesL s6.sure).length c0n) (.slice A1n W6.length c1n) (.int .i64 s6.count) (.bool s6.down) (.slice A4n f6.length c4n) (.int .i64 r6), st6_blk P8.out.blk (.slice A0n (filesL s6.sure).length c0n) (.slice A1n W6.length c1n) (.int .i64 s6.count) (.bool s6.down) (.slice A4n f6.length c4n) (.int .i64 r6)⟩⟩⟩
    ·have hlt : ((j : Int) < (l.length : Int)) = True := eq_true hj
     have hlt2 : ((j : Int) < 60) = False := eq_false hj2
     clear hj hj2
     go_wp2
     go_ret
     exact ⟨rfl, P0.out.bel⟩
   ·have hlt : ((j : Int) < (l.length : Int)) = False := eq_false hj
    clear hj
    go_wp2
    go_ret
    exact ⟨rfl, P0.out.bel⟩
theorem w_DiskPlays (W : World) (A0 : Option Addr) (c0 : Nat) (a0 : List S40) (l0 : a0.length ≤ c0) (C0 : Kd.C k40 W A0 a0.length a0) (g0 : (a0.length * 112 ≤ 140737488351232 ∧ ∀ y0 ∈ a0, ((Lit.int .i64 y0.f0).wf = true ∧ (y0.f1.size ≤ 140737488351232 ∧ (y0.f2.size ≤ 140737488351232 ∧ (y0.f3.size ≤ 140737488351232 ∧ ((Lit.int .i64 y0.f4).wf = true ∧ (((Lit.int .i64 y0.f5.f0).wf = true ∧ ((Lit.int .i64 y0.f5.f1).wf = true ∧ (Lit.int .i64 y0.f5.f2).wf = true)) ∧ (y0.f6.length * 24 ≤ 140737488351232 ∧ ∀ y1 ∈ y0.f6, ((Lit.int .i64 y1.f0).wf = true ∧ ((Lit.int .i64 y1.f1).wf = true ∧ (Lit.int .i64 y1.f2).wf = true))))))))))) :
  Calls Try.prog 7 #[.slice A0 a0.length c0] W fun e w' => e = .returned (.bool true) ∧ Below W.heap.size W w' :=
 walkDiskPlays W A0 c0 a0 C0 (fun a ha => ⟨⟨(g0.2 a ha).2.1, (g0.2 a ha).2.2.1, (g0.2 a ha).2.2.2.1⟩, (g0.2 a ha).2.2.2.2.2.2.1⟩)
end Go.Proofs.Ytabngibognlmoaa.Q