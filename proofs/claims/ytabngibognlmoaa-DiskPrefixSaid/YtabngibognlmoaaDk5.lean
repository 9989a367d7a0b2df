/- The laws' own calls: same, changed. -/
import Derived.Test.YtabngibognlmoaaDk4
namespace Go.Proofs.Ytabngibognlmoaa.Q
open Go.Maps Go.WideShapes Go.WideMaps Go.RowKit Go.Proofs.YtabngibognlmoaaW.PrintWords Go.Proofs.YtabngibognlmoaaW.PrintLast Go.Proofs.YtabngibognlmoaaW.PrintMore
set_option linter.unusedVariables false
set_option linter.unusedSimpArgs false
set_option maxHeartbeats 10000000
set_option maxRecDepth 100000
/-! same -/
theorem same_go (l : List S48) (hl : l.length ≤ 1000000000) : ∀ (d i : Nat), i + d = l.length → Ev (fun k => stowagelaw04_same.l0 k l l (i : Int)) true
  | 0, i, h => Ev.step (f := fun _ => some true) (fun k => by rw [stowagelaw04_same.l0, if_neg (by omega)]) ⟨0, fun _ _ => by simp⟩
  | d + 1, i, h => by
    refine Ev.step (f := fun k => stowagelaw04_same.l0 k l l ((i + 1 : Nat) : Int)) (fun k => ?_) (same_go l hl d (i + 1) (by omega))
    rw [stowagelaw04_same.l0, if_pos (by omega), if_pos (by omega), if_pos (by omega), w1n i (by omega), if_neg (by simp)]
theorem same_calls (w : World) (A B : Option Addr) (c e0 : Nat) (l : List S48) (hA : Kd.C k48 w A l.length l) (hB : Kd.C k48 w B l.length l) (hc : l.length ≤ c) (he : l.length ≤ e0) (hl : l.length ≤ 1000000000) :
    Calls Try.prog 23 #[.slice A l.length c, .slice B l.length e0] w fun e w' => e = .returned (.bool true) ∧ Below w.heap.size w w' := by
  have h : Ev (fun k => stowagelaw04_same.f k l l) true := Ev.congr (fun k => if_pos rfl) (same_go l hl l.length 0 (by omega))
  obtain ⟨k, hk⟩ := h.rounds
  exact (stowagelaw04_same.calls k A c l B e0 l true w hA hc hB he hk).mono fun e w' ⟨h1, h2⟩ => ⟨h1, h2.below⟩
/-! changed -/
def OkA (a : S40) : Prop := a.f1.size ≤ BM ∧ a.f2.size ≤ BM ∧ a.f3.size ≤ BM
theorem callK_room {st : DK} {i : Nat} (h : Good i st) (hi : i ≤ 1000) {k : Int} {a b s : ByteArray} {n : Int} (hk : 0 ≤ k ∧ k ≤ 4) (ha : a.size ≤ BM) (hb : b.size ≤ BM) (hs : s.size ≤ BM) : (callK st k a b s n).1.room = st.room := by
  rcases call_cases h hi (n := n) hk ha hb hs with ⟨e, _, he⟩ | ⟨c, _, _, _, hc, _⟩
  · rw [he]
  · rw [hc]; rfl
theorem changed_calls {w : World} (A : Option Addr) (c : Nat) (l : List S40) (hC : Kd.C k40 w A l.length l) (hl : ∀ a ∈ l, OkA a) (mst : Nat) (hm : mst ≤ 900) :
    Calls Try.prog 24 #[.slice A l.length c, .int .i64 (mst : Int)] w fun e w' => ∃ d st, e = .returned (.pointer (some ⟨d, 0, none⟩)) ∧ IsD w' d (fun k => w.heap.size ≤ k) st ∧ Good mst st ∧ st.room = -1 ∧ Below w.heap.size w w' := by
  have hua := Try.underlying40
  have huf := Try.underlying23
  have HC := Aside0.mk hC
  have HL := Aside0.mk hl
  have HM := Aside0.mk (Kd.C_max hC)
  have HMM := Aside0.mk hm
  clear hC hl hm
  go_enter Try.func24, Try.ntmps24
  go_wp2_with (fail)
  refine (new_calls w).mono ?_
  rintro e w1 ⟨d, rfl, hI, hb⟩
  have I1 := Aside0.mk hI
  have B1 := Aside0.mk hb
  clear hI hb
  go_wp2_with (fail)
  go_loopg [6] (mst + 1) (fun kq v6 w' => ∃ (j : Nat) (st : DK), v6 = .int .i64 (j : Int) ∧ Aside0 (j + kq = mst + 1 ∧ j ≤ mst) ∧ Aside0 (IsD w' d (fun k => w.heap.size ≤ k) st) ∧ Aside0 (Good j st ∧ st.room = -1) ∧ Aside0 (Below w.heap.size w w'))
  case atStart => exact ⟨0, newK, rfl, ⟨by omega, by omega⟩, I1, ⟨good_new, rfl⟩, B1⟩
  case round =>
    obtain ⟨j, st, rfl, HJ, HI, HG, HB⟩ := hrel
    cases gk with
    | zero => have := HJ.out; omega
    | succ k1 =>
      by_cases hj : j < l.length
      · have hlt : ((j : Int) < (l.length : Int)) = True := eq_true (by omega)
        by_cases hj2 : j < mst
        · have hlt2 : ((j : Int) < (mst : Int)) = True := eq_true (by omega)
          obtain ⟨ad, B, m, cc, rfl, h0, h1, h2, h3, h4, h5, h6, h7, h8, hld, hm8⟩ := at_A (Kd.C_below HC.out HB.out) j hj
          have hx : l.getD j zA ∈ l := by rw [List.getD_eq_getElem?_getD, List.getElem?_eq_getElem hj]; exact List.getElem_mem hj
          have HOK := Aside0.mk (HL.out _ hx)
          obtain ⟨x, hxx⟩ : ∃ x, x = l.getD j zA := ⟨_, rfl⟩
          rw [← hxx] at h0 h1 h2 h3 h4 h5 h6 h7 hld HOK
          have HLD := Aside0.mk hld
          clear hld hm8 h1 h2 h3 h4 h5 h6 h7 h8
          have HXX := Aside0.mk hxx
          clear hx hxx
          by_cases hk : 0 ≤ x.f0 ∧ x.f0 ≤ 4
          · have g1 : (x.f0 ≥ 0) = True := eq_true hk.1
            have g2 : (x.f0 ≤ 4) = True := eq_true hk.2
            have g3 : (x.f0 == 5) = false := beq_eq_false_iff_ne.mpr (by omega)
            have HK := Aside0.mk hk
            clear hk
            go_wp2_with ((with_reducible refine gate_dst (N := 37) rfl ?_); refine Halt.out ?_)
            refine ⟨?_⟩
            refine Kd.event_run (v := .agg #[.int .i64 x.f0, .string x.f1, .string x.f2, .string x.f3, .int .i64 x.f4, .int .i64 x.f5.f0, .int .i64 x.f5.f1, .int .i64 x.f5.f2, .slice B m cc]) (w1 := wr) rfl ?hr ?_
            case hr => exact load_run rfl rfl HLD.out
            go_wp2_with (fail)
            refine (call_calls HI.out (fun k hk => Nat.le_trans HB.out.size hk) HG.out.1 (by have := HJ.out; have := HMM.out; omega) x.f0 x.f1 x.f2 x.f3 x.f4 x.f5.f0 x.f5.f1 x.f5.f2 B m cc HK.out HOK.out.1 HOK.out.2.1 HOK.out.2.2).mono ?_
            rintro e w2 ⟨rfl, hI, hb⟩
            have I2 := Aside0.mk hI
            have B2 : Aside0 (Below w.heap.size w w2) := ⟨HB.out.trans (hb.below HB.out.size)⟩
            have G2 := Aside0.mk (And.intro (HG.out.1.call (n := x.f4) (by have := HJ.out; have := HMM.out; omega) HK.out HOK.out.1 HOK.out.2.1 HOK.out.2.2) ((callK_room (n := x.f4) HG.out.1 (by have := HJ.out; have := HMM.out; omega) HK.out HOK.out.1 HOK.out.2.1 HOK.out.2.2).trans HG.out.2))
            clear hI hb h0 g1 g2
            obtain ⟨ad', _, _, _, e, h0, hm8⟩ := at_A (Kd.C_below HC.out B2.out) j hj
            clear hm8
            injection e with e
            subst e
            rw [← HXX.out] at h0
            go_wp2
            go_roundg k1
            case measure => have := HJ.out; omega
            case rel => exact ⟨j + 1, _, by rw [IntWalk.wrap64_in _ (by have := HM.out; omega)]; rfl, ⟨by have := HJ.out; omega, by omega⟩, I2, G2, B2⟩
          · have HK := Aside0.mk hk
            by_cases hk5 : x.f0 = 5
            · rw [hk5] at h0
              clear hk
              go_wp2_with (fail)
              refine (sync_calls HI.out (fun k hk => Nat.le_trans HB.out.size hk)).mono ?_
              rintro e w2 ⟨rfl, hI, hb⟩
              have I2 := Aside0.mk hI
              have B2 : Aside0 (Below w.heap.size w w2) := ⟨HB.out.trans (hb.below HB.out.size)⟩
              have G2 : Aside0 (Good (j + 1) (syncK st) ∧ (syncK st).room = -1) := ⟨HG.out.1.sync.1.mono (Nat.le_succ _), by rw [(syncK_up HG.out.1.up).1]; exact HG.out.2⟩
              clear hI hb h0
              go_wp2
              go_roundg k1
              case measure => have := HJ.out; omega
              case rel => exact ⟨j + 1, _, by rw [IntWalk.wrap64_in _ (by have := HM.out; omega)]; rfl, ⟨by have := HJ.out; omega, by omega⟩, I2, G2, B2⟩
            · have g3 : (x.f0 == 5) = false := beq_eq_false_iff_ne.mpr hk5
              have G2 : Aside0 (Good (j + 1) st ∧ st.room = -1) := ⟨HG.out.1.mono (Nat.le_succ _), HG.out.2⟩
              by_cases hk0 : 0 ≤ x.f0
              · have g1 : (x.f0 ≥ 0) = True := eq_true hk0
                have g2 : (x.f0 ≤ 4) = False := eq_false (by omega)
                clear hk hk5 hk0
                go_wp2
                go_roundg k1
                case measure => have := HJ.out; omega
                case rel => exact ⟨j + 1, _, by rw [IntWalk.wrap64_in _ (by have := HM.out; omega)]; rfl, ⟨by have := HJ.out; omega, by omega⟩, HI, G2, HB⟩
              · have g1 : (x.f0 ≥ 0) = False := eq_false hk0
                clear hk hk5 hk0
                go_wp2
                go_roundg k1
                case measure => have := HJ.out; omega
                case rel => exact ⟨j + 1, _, by rw [IntWalk.wrap64_in _ (by have := HM.out; omega)]; rfl, ⟨by have := HJ.out; omega, by omega⟩, HI, G2, HB⟩
        · have hlt2 : ((j : Int) < (mst : Int)) = False := eq_false (by omega)
          go_wp2
          go_ret
          exact ⟨d, st, rfl, HI.out, HG.out.1.mono HJ.out.2, HG.out.2, HB.out⟩
      · have hlt : ((j : Int) < (l.length : Int)) = False := eq_false (by omega)
        go_wp2
        go_ret
        exact ⟨d, st, rfl, HI.out, HG.out.1.mono HJ.out.2, HG.out.2, HB.out⟩
theorem Good.fine {i : Nat} {st : DK} (h : Good i st) (hi : i ≤ 1000) : Fine st := ⟨h.up, h.ris, h.named, by have := h.len; omega⟩
end Go.Proofs.Ytabngibognlmoaa.Q
