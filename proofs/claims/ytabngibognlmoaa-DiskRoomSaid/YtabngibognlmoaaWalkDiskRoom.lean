/- DiskRoom's walk. -/
import Derived.Test.YtabngibognlmoaaDk5
namespace Go.Proofs.Ytabngibognlmoaa.Q
open Go.Maps Go.WideShapes Go.WideMaps Go.RowKit Go.Proofs.YtabngibognlmoaaW.PrintWords Go.Proofs.YtabngibognlmoaaW.PrintLast Go.Proofs.YtabngibognlmoaaW.PrintMore
set_option linter.unusedVariables false
set_option linter.unusedSimpArgs false
set_option maxHeartbeats 10000000
set_option maxRecDepth 100000
/-! DiskRoom -/
theorem room_keep {i : Nat} {st : DK} (h : Good i st) (hi : i ≤ 1000) {k : Int} {a b s : ByteArray} {n : Int} (hk : 0 ≤ k ∧ k ≤ 4) (ha : a.size ≤ BM) (hb : b.size ≤ BM) (hs : s.size ≤ BM) (hr : 0 ≤ st.room) (ht : (totF st.now : Int) ≤ st.room) : (totF (callK st k a b s n).1.now : Int) ≤ st.room := by
  rcases call_cases h hi (n := n) hk ha hb hs with ⟨e, _, he⟩ | ⟨c, hck, hcn, hcs, hc, h1, h2, h3, h4, h5⟩
  · rw [he]; exact ht
  · rw [hc]
    show (totF (doC st.now c) : Int) ≤ st.room
    obtain ⟨t1, t2, t3⟩ := doC_tot st.now c (fun e => (h2.dest e).2)
    by_cases k0 : k = 0
    · have hh := h4 k0
      rw [hcs (by omega)] at t1
      unfold roomE at hh
      rw [decide_eq_false_iff_not] at hh
      have hh2 : ¬ (0 < s.size ∧ st.room < (totF st.now : Int) - ((0 : Nat) : Int) + (s.size : Int)) := fun e => hh ⟨hr, e⟩
      omega
    · by_cases k1 : k = 1
      · have hh := h5 k1
        have t3 := t3 (by omega)
        rw [hcn] at t3
        rw [hcs (by omega)] at t3
        unfold roomE at hh
        rw [decide_eq_false_iff_not] at hh
        have hh2 : ¬ ((getF st.now a).size < s.size ∧ st.room < (totF st.now : Int) - ((getF st.now a).size : Int) + (s.size : Int)) := fun e => hh ⟨hr, e⟩
        omega
      · have := t2 (by omega)
        omega
theorem Good.fine {i : Nat} {st : DK} (h : Good i st) (hi : i ≤ 1000) : Fine st := ⟨h.up, h.ris, h.named, by have := h.len; omega⟩
theorem rm64 (x : Int) : ∃ r : Int, (wrap64 (x.tmod 64 + 64)).tmod 64 = r ∧ 0 ≤ r ∧ r < 64 := by
  have h1 := Int.tmod_lt_of_pos x (show (0 : Int) < 64 by decide)
  have h2 := Int.lt_tmod_of_pos x (show (0 : Int) < 64 by decide)
  refine ⟨_, rfl, ?_, ?_⟩
  · rw [IntWalk.wrap64_in _ (by omega)]
    exact Int.tmod_nonneg _ (by omega)
  · exact Int.tmod_lt_of_pos _ (by decide)
theorem walkDiskRoom (w : World) (A : Option Addr) (c : Nat) (l : List S40) (hlc : l.length ≤ c) (hC : Kd.C k40 w A l.length l) (hl : ∀ a ∈ l, OkA a) (rm : Int) :
    Calls Try.prog 4 #[.slice A l.length c, .int .i64 rm] w fun e w' => e = .returned (.bool true) ∧ Below w.heap.size w w' := by
  have hua := Try.underlying40
  have huf := Try.underlying23
  have HC := Aside0.mk hC
  have HL := Aside0.mk hl
  have HM := Aside0.mk (Kd.C_max hC)
  clear hC hl hlc
  go_enter Try.func4, Try.ntmps4
  go_wp2_with (fail)
  refine (new_calls w).mono ?_
  rintro e w1 ⟨d, rfl, hI, hb⟩
  have I1 := Aside0.mk hI
  have B1 := Aside0.mk hb
  clear hI hb
  go_wp2_with (fail)
  refine (awake_calls w1).mono ?_
  rintro e w2 ⟨rfl, hb⟩
  have I2 := Aside0.mk (I1.out.below hb)
  have B2 : Aside0 (Below w.heap.size w w2) := ⟨B1.out.trans (hb.mono B1.out.size)⟩
  clear hb I1 B1
  go_wp2_with (fail)
  obtain ⟨r, hr, hr0, hr1⟩ := rm64 rm
  rw [hr]
  clear hr
  refine (room_calls I2.out r).mono ?_
  rintro e w3 ⟨rfl, hI, hb⟩
  have I3 := Aside0.mk hI
  have B3 : Aside0 (Below w.heap.size w w3) := ⟨B2.out.trans (hb.below B2.out.size)⟩
  have G3 : Aside0 (Good 0 { newK with room := max r (-1) } ∧ max r (-1) = r ∧ totF newK.now ≤ 0) := ⟨good_new.room _, by omega, Nat.le_refl _⟩
  have HR := Aside0.mk (And.intro hr0 hr1)
  clear hI hb I2 B2 hr0 hr1
  go_wp2_with (fail)
  go_loopg [6, 7, 8] 41 (fun kq v6 v7 v8 w' => ∃ (j : Nat) (st : DK), v6 = .int .i64 (j : Int) ∧ Aside0 (j + kq = 41 ∧ j ≤ 40) ∧ Aside0 (IsD w' d (fun k => w.heap.size ≤ k) st) ∧ Aside0 (Good j st ∧ st.room = r ∧ (totF st.now : Int) ≤ r) ∧ Aside0 (Below w.heap.size w w'))
  case atStart => exact ⟨0, _, rfl, ⟨by omega, by omega⟩, I3, ⟨G3.out.1, G3.out.2.1, by have := G3.out.2.2; have := HR.out; show (totF newK.now : Int) ≤ r; omega⟩, B3⟩
  case round =>
    clear I3 B3 G3
    obtain ⟨j, st, rfl, HJ, HI, HG, HB⟩ := hrel
    cases gk with
    | zero => have := HJ.out; omega
    | succ k1 =>
      by_cases hj : j < l.length
      · have hlt : ((j : Int) < (l.length : Int)) = True := eq_true (by omega)
        by_cases hj2 : j < 40
        · have hlt2 : ((j : Int) < (40 : Int)) = True := eq_true (by omega)
          have J1 : Aside0 (j ≤ 1000) := ⟨by omega⟩
          obtain ⟨ad, B, m, cc, rfl, h0, h1, h2, h3, h4, h5, h6, h7, h8, hld, hm8⟩ := at_A (Kd.C_below HC.out HB.out) j hj
          clear hld hm8 h1 h2 h3 h4 h5 h6 h7 h8
          have hx : l.getD j zA ∈ l := by rw [List.getD_eq_getElem?_getD, List.getElem?_eq_getElem hj]; exact List.getElem_mem hj
          have HOK := Aside0.mk (HL.out _ hx)
          obtain ⟨x, hxx⟩ : ∃ x, x = l.getD j zA := ⟨_, rfl⟩
          rw [← hxx] at h0 HOK
          have HXX := Aside0.mk hxx
          clear hx hxx
          by_cases hk0 : x.f0 < 0
          · have g1 : (x.f0 < 0) = True := eq_true hk0
            clear hk0
            go_wp2
            go_roundg k1
            case measure => have := HJ.out; omega
            case rel => exact ⟨j + 1, st, rfl, ⟨by have := HJ.out; omega, by omega⟩, HI, ⟨HG.out.1.mono (Nat.le_succ _), HG.out.2⟩, HB⟩
          have g1 : (x.f0 < 0) = False := eq_false hk0
          by_cases hk4 : 4 < x.f0
          · have g2 : (x.f0 > 4) = True := eq_true hk4
            clear hk0 hk4
            go_wp2
            go_roundg k1
            case measure => have := HJ.out; omega
            case rel => exact ⟨j + 1, st, rfl, ⟨by have := HJ.out; omega, by omega⟩, HI, ⟨HG.out.1.mono (Nat.le_succ _), HG.out.2⟩, HB⟩
          have g2 : (x.f0 > 4) = False := eq_false hk4
          have HK : Aside0 (0 ≤ x.f0 ∧ x.f0 ≤ 4) := ⟨by omega, by omega⟩
          clear hk0 hk4
          go_wp2_with (fail)
          refine (files_calls HI.out (HG.out.1.fine J1.out)).mono ?_
          rintro e w5 ⟨v5, rfl, hR, hb⟩
          obtain ⟨A5, c5, rfl, hl5, hC5⟩ := Kd.R_reads hR
          have R5 := Aside0.mk hR
          have L5 := Aside0.mk hl5
          have I5 := Aside0.mk ((HI.out.bound.below hb).mono (ok' := fun k => (w.heap.size ≤ k ∧ k < wr.heap.size) ∨ w5.heap.size ≤ k) (fun k hk => Or.inl hk))
          have S5 : Aside0 (wr.heap.size ≤ w5.heap.size) := ⟨hb.size⟩
          have B5 : Aside0 (Below w.heap.size w w5) := ⟨HB.out.trans (hb.mono HB.out.size)⟩
          obtain ⟨ad', B, m, cc, e, h0', _, _, _, _, _, _, _, _, hld, hm8⟩ := at_A (Kd.C_below HC.out B5.out) j hj
          injection e with e
          subst e
          rw [← HXX.out] at hld
          have HLD := Aside0.mk hld
          clear hR hb hC5 hl5 hld hm8 h0 h0' g1 g2
          go_wp2_with ((with_reducible refine gate_dst (N := 49) rfl ?_); refine Halt.out ?_)
          refine ⟨?_⟩
          refine Kd.event_run (v := .agg #[.int .i64 x.f0, .string x.f1, .string x.f2, .string x.f3, .int .i64 x.f4, .int .i64 x.f5.f0, .int .i64 x.f5.f1, .int .i64 x.f5.f2, .slice B m cc]) (w1 := w5) rfl ?hr ?_
          case hr => exact load_run rfl rfl HLD.out
          go_wp2_with (fail)
          refine (call_calls I5.out (fun k hk => Or.inr hk) HG.out.1 J1.out x.f0 x.f1 x.f2 x.f3 x.f4 x.f5.f0 x.f5.f1 x.f5.f2 B m cc HK.out HOK.out.1 HOK.out.2.1 HOK.out.2.2).mono ?_
          rintro e w6 ⟨rfl, hI, hb⟩
          have I6 := Aside0.mk (hI.mono (ok' := fun k => w.heap.size ≤ k) (fun k hk => hk.elim (fun h => h.1) (fun h => Nat.le_trans B5.out.size h)))
          have B6 : Aside0 (Below w.heap.size w w6) := ⟨B5.out.trans ((hb.mono (ok' := fun k => w.heap.size ≤ k) (fun k _ hk => hk.elim (fun h => h.1) (fun h => Nat.le_trans B5.out.size h))).below B5.out.size)⟩
          have RW6 := Aside0.mk (Kd.R_step R5.out (fun k hk hlt => hb.block k hlt (fun e => e.elim (fun h => absurd h.2 (Nat.not_lt.2 hk)) (fun h => absurd hlt (Nat.not_lt.2 h)))))
          have G6 := Aside0.mk (HG.out.1.call (n := x.f4) J1.out HK.out HOK.out.1 HOK.out.2.1 HOK.out.2.2)
          have R6 := Aside0.mk ((callK_room (n := x.f4) HG.out.1 J1.out HK.out HOK.out.1 HOK.out.2.1 HOK.out.2.2).trans HG.out.2.1)
          have T6 := Aside0.mk (room_keep (n := x.f4) HG.out.1 J1.out HK.out HOK.out.1 HOK.out.2.1 HOK.out.2.2 (by rw [HG.out.2.1]; exact HR.out.1) (by rw [HG.out.2.1]; exact HG.out.2.2))
          have SR := Aside0.mk HG.out.2.1
          have CC := Aside0.mk (call_cases HG.out.1 J1.out (n := x.f4) HK.out HOK.out.1 HOK.out.2.1 HOK.out.2.2)
          clear HG
          rcases CC.out with ⟨e2, he, hc⟩ | ⟨c2, _, _, _, hc, _⟩
          · rw [hc] at I6 G6 R6 T6 ⊢
            have ge : (e2 != 0) = true := bne_iff_ne.mpr he
            clear hc he CC hb hI
            go_wp2_with (fail)
            refine (used_calls I6.out (by have := T6.out; have := SR.out; have := HR.out; omega)).mono ?_
            rintro e w7 ⟨rfl, hb⟩
            rw [used_up G6.out.up]
            have I7 := Aside0.mk (I6.out.below hb)
            have B7 : Aside0 (Below w.heap.size w w7) := ⟨B6.out.trans (hb.mono B6.out.size)⟩
            have gu : ((totF st.now : Int) > r) = False := eq_false (by have := T6.out; have := R6.out; have := SR.out; omega)
            have RW7 := Aside0.mk (Kd.R_below RW6.out hb)
            clear hb
            go_wp2_with (fail)
            refine (files_calls I7.out (G6.out.fine (Nat.le_trans (Nat.succ_le_of_lt hj2) (by decide)))).mono ?_
            rintro e w8 ⟨v8, rfl, hR, hb⟩
            obtain ⟨A8, c8, rfl, hl8, hC8⟩ := Kd.R_reads hR
            have B8 : Aside0 (Below w.heap.size w w8) := ⟨B7.out.trans (hb.mono B7.out.size)⟩
            have I8 := Aside0.mk (I7.out.below hb)
            have C8 := Aside0.mk (Kd.R_reads' (Kd.R_below RW7.out hb)).2.2
            have D8 := Aside0.mk hC8
            have L8 := Aside0.mk hl8
            clear hR hb hC8 hl8
            go_wp2_with (fail)
            refine (same_calls w8 A8 A5 c8 c5 (filesL st.now) D8.out C8.out L8.out L5.out (by have := G6.out.len; simp only [filesL, List.length_map]; omega)).mono ?_
            rintro e w9 ⟨rfl, hb⟩
            have B9 : Aside0 (Below w.heap.size w w9) := ⟨B8.out.trans (hb.mono B8.out.size)⟩
            have I9 := Aside0.mk (I8.out.below hb)
            clear hb
            go_wp2
            go_roundg k1
            case measure => have := HJ.out; omega
            case rel => exact ⟨j + 1, st, rfl, ⟨by have := HJ.out; omega, by omega⟩, I9, ⟨G6.out, R6.out, by have := T6.out; have := R6.out; have := SR.out; omega⟩, B9⟩
          · rw [hc] at I6 G6 R6 T6 ⊢
            clear hc CC hb hI
            go_wp2_with (fail)
            refine (used_calls I6.out (by have := T6.out; have := SR.out; have := HR.out; omega)).mono ?_
            rintro e w7 ⟨rfl, hb⟩
            rw [used_up G6.out.up]
            have I7 := Aside0.mk (I6.out.below hb)
            have B7 : Aside0 (Below w.heap.size w w7) := ⟨B6.out.trans (hb.mono B6.out.size)⟩
            have gu : ((totF (addK st c2).now : Int) > r) = False := eq_false (by have := T6.out; have := R6.out; have := SR.out; omega)
            clear hb
            go_wp2
            go_roundg k1
            case measure => have := HJ.out; omega
            case rel => exact ⟨j + 1, addK st c2, rfl, ⟨by have := HJ.out; omega, by omega⟩, I7, ⟨G6.out, R6.out, by have := T6.out; have := R6.out; have := SR.out; omega⟩, B7⟩
        · have hlt2 : ((j : Int) < (40 : Int)) = False := eq_false (by omega)
          go_wp2
          go_ret
          exact ⟨rfl, HB.out⟩
      · have hlt : ((j : Int) < (l.length : Int)) = False := eq_false (by omega)
        go_wp2
        go_ret
        exact ⟨rfl, HB.out⟩
theorem w_DiskRoom (W : World) (A0 : Option Addr) (c0 : Nat) (a0 : (List S40)) (l0 : a0.length ≤ c0) (C0 : Kd.C k40 W A0 a0.length a0) (g0 : (a0.length * 112 ≤ 140737488351232 ∧ ∀ y0 ∈ a0, ((Lit.int .i64 y0.f0).wf = true ∧ (y0.f1.size ≤ 140737488351232 ∧ (y0.f2.size ≤ 140737488351232 ∧ (y0.f3.size ≤ 140737488351232 ∧ ((Lit.int .i64 y0.f4).wf = true ∧ (((Lit.int .i64 y0.f5.f0).wf = true ∧ ((Lit.int .i64 y0.f5.f1).wf = true ∧ (Lit.int .i64 y0.f5.f2).wf = true)) ∧ (y0.f6.length * 24 ≤ 140737488351232 ∧ ∀ y1 ∈ y0.f6, ((Lit.int .i64 y1.f0).wf = true ∧ ((Lit.int .i64 y1.f1).wf = true ∧ (Lit.int .i64 y1.f2).wf = true))))))))))) (a1 : Int) (g1 : (Lit.int .i64 a1).wf = true) : Calls Try.prog 4 #[.slice A0 a0.length c0, .int .i64 a1] W fun e w' => e = .returned (.bool true) ∧ Below W.heap.size W w' :=
  walkDiskRoom W A0 c0 a0 l0 C0 (fun a h => ⟨(g0.2 a h).2.1, (g0.2 a h).2.2.1, (g0.2 a h).2.2.2.1⟩) a1
end Go.Proofs.Ytabngibognlmoaa.Q
