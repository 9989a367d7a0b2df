/- The law DiskPrefix walked. -/
import Derived.Outline
import Derived.StillTailTactics
import Derived.Deep.AppendLies
import Derived.Test.YtabngibognlmoaaDk5
import Derived.Test.YtabngibognlmoaaLay
namespace Go.Proofs.Ytabngibognlmoaa.Q
open Go.Maps Go.WideShapes Go.WideMaps Go.RowKit Go.Proofs.YtabngibognlmoaaW.PrintWords Go.Proofs.YtabngibognlmoaaW.PrintLast Go.Proofs.YtabngibognlmoaaW.PrintMore
set_option linter.unusedVariables false
set_option linter.unusedSimpArgs false
set_option maxHeartbeats 10000000
set_option maxRecDepth 100000
/-! DiskPrefix: what stood behind each beginning -/
structure Pref (st : DK) (M : List (List S48)) : Prop where
  len : M.length = st.wait.length + 1
  at_ : ∀ k, k ≤ st.wait.length → M[k]? = some (filesL ((st.wait.take k).foldl doC st.sure))
  fine : ∀ k, k ≤ st.wait.length → Rises ((st.wait.take k).foldl doC st.sure) ∧ Named ((st.wait.take k).foldl doC st.sure) ∧ ((st.wait.take k).foldl doC st.sure).length ≤ 1000
theorem Pref.init {st : DK} {i : Nat} (h : st.wait = []) (hg : Good i st) (hi : i ≤ 1000) (hs : st.sure = st.now) : Pref st [filesL st.sure] := by
  refine ⟨by rw [h]; rfl, fun k hk => ?_, fun k hk => ?_⟩
  · rw [h] at hk ⊢
    obtain rfl : k = 0 := Nat.le_zero.1 hk
    rfl
  · rw [h, hs, List.take_nil]
    exact ⟨hg.ris, hg.named, Nat.le_trans hg.len hi⟩
theorem Pref.add {st : DK} {M : List (List S48)} {i : Nat} (h : Pref st M) (hg : Good i st) (c : Chg) {i' : Nat} (hg' : Good i' (addK st c)) (hi' : i' ≤ 1000) : Pref (addK st c) (M ++ [filesL (addK st c).now]) := by
  have hw : (addK st c).wait = st.wait ++ [c] := rfl
  have hs : (addK st c).sure = st.sure := rfl
  have hnew : (st.wait ++ [c]).foldl doC st.sure = (addK st c).now := by
    rw [List.foldl_append, ← hg.now]
    rfl
  refine ⟨by rw [hw, List.length_append, List.length_append, h.len]; rfl, fun k hk => ?_, fun k hk => ?_⟩
  rotate_left
  · rw [hw, List.length_append] at hk
    rw [hw, hs]
    by_cases hk2 : k ≤ st.wait.length
    · rw [List.take_append_of_le_length hk2]
      exact h.fine k hk2
    · rw [List.take_of_length_le (by simp only [List.length_append, List.length_cons, List.length_nil] at hk ⊢; omega), hnew]
      exact ⟨hg'.ris, hg'.named, Nat.le_trans hg'.len hi'⟩
  rw [hw, List.length_append] at hk
  rw [hw, hs]
  by_cases hk2 : k ≤ st.wait.length
  · rw [List.getElem?_append_left (by have := h.len; omega), h.at_ k hk2, List.take_append_of_le_length hk2]
  · obtain rfl : k = st.wait.length + 1 := by simp only [List.length_cons, List.length_nil] at hk; omega
    rw [List.getElem?_append_right (by have := h.len; omega), h.len, Nat.sub_self]
    have e : (st.wait ++ [c]).take (st.wait.length + 1) = st.wait ++ [c] := List.take_of_length_le (by simp)
    rw [e, List.foldl_append, ← hg.now]
    rfl
theorem Pref.fail {st : DK} {M : List (List S48)} (h : Pref st M) (keep : Int) : ∃ n : Nat, n < M.length ∧ min (max keep 0) ((M.length : Int) - 1) = (n : Int) ∧ M[n]? = some (filesL (failF st keep 0)) ∧ Rises (failF st keep 0) ∧ Named (failF st keep 0) ∧ (failF st keep 0).length ≤ 1000 := by
  have h1 : clampK keep st.wait.length ≤ st.wait.length := by unfold clampK; omega
  refine ⟨clampK keep st.wait.length, by have := h.len; omega, ?_, ?_, ?_⟩
  · rw [h.len]
    unfold clampK
    omega
  · rw [h.at_ _ h1, failF_none rfl (Or.inr (by decide))]
  · rw [failF_none rfl (Or.inr (by decide))]
    exact h.fine _ h1
theorem Rises.fail {st : DK} (h : Rises st.sure) (n : Nat) : Rises ((st.wait.take n).foldl doC st.sure) := by
  have : ∀ (cs : List Chg) (l : Fs), Rises l → Rises (cs.foldl doC l) := by
    intro cs
    induction cs with
    | nil => exact fun l h => h
    | cons c cs ih => exact fun l h => ih _ (doC_rises c h)
  exact this _ _ h
/-! DiskPrefix's walk -/
def kL : Kd (List S48) := Kd.slice 48 k48
theorem infoL : (Try.prog.info? 41).map (fun i => (i.zero, i.size, i.bytes)) = some (some (.slice none 0 0), 1, 24) := by kernel_rfl
theorem failK_up {st : DK} (h : st.down = false) (a b : Int) : failK st a b = { st with sure := failF st a b, now := failF st a b, wait := [], down := true } := if_neg (by rw [h]; simp)
theorem cell_lt {w : World} {a : Addr} {v : Value} (h : w.cell? a = some v) : a.block < w.heap.size := by
  rcases Nat.lt_or_ge a.block w.heap.size with h1 | h1
  · exact h1
  · simp [World.cell?, Array.getElem?_eq_none h1] at h
theorem walkDiskPrefix (w : World) (A : Option Addr) (c : Nat) (l : List S40) (hC : Kd.C k40 w A l.length l) (hl : ∀ a ∈ l, OkA a) (B : Option Addr) (cb : Nat) (m : List S40) (hD : Kd.C k40 w B m.length m) (hm : ∀ a ∈ m, OkA a) (keep : Int) :
    Calls Try.prog 6 #[.slice A l.length c, .slice B m.length cb, .int .i64 keep] w fun e w' => e = .returned (.bool true) ∧ Below w.heap.size w w' := by
  have hua := Try.underlying40
  have huf := Try.underlying23
  have HC := Aside0.mk hC
  have HL := Aside0.mk hl
  have HD := Aside0.mk hD
  have HM := Aside0.mk hm
  have HMX := Aside0.mk (Kd.C_max hD)
  clear hC hl hD hm
  go_enter Try.func6, Try.ntmps6
  go_wp2_with (fail)
  have P := changed_calls A c l HC.out HL.out 30 (by decide)
  rw [show ((30 : Nat) : Int) = 30 from rfl] at P
  refine P.mono ?_
  clear P
  rintro e w1 ⟨d, st, rfl, hI, hG, hr, hb⟩
  have I1 := Aside0.mk hI
  have B1 := Aside0.mk hb
  have G1 := Aside0.mk hG
  clear hI hb hG hr
  go_wp2_with (fail)
  refine (awake_calls w1).mono ?_
  rintro e w2 ⟨rfl, hb⟩
  have I2 := Aside0.mk (I1.out.below hb)
  have B2 : Aside0 (Below w.heap.size w w2) := ⟨B1.out.trans (hb.mono B1.out.size)⟩
  clear hb I1 B1
  go_wp2_with (fail)
  refine (sync_calls I2.out (fun k hk => Nat.le_trans B2.out.size hk)).mono ?_
  rintro e w3 ⟨rfl, hI, hb⟩
  rw [G1.out.sync.2]
  have G3 := Aside0.mk G1.out.sync.1
  have R3 : Aside0 ((syncK st).wait = [] ∧ (syncK st).sure = (syncK st).now) := ⟨by rw [(syncK_up G1.out.up).1]; exact ⟨rfl, rfl⟩⟩
  have I3 := Aside0.mk hI
  have B3 : Aside0 (Below w.heap.size w w3) := ⟨B2.out.trans (hb.below B2.out.size)⟩
  clear hI hb I2 B2 G1
  generalize syncK st = s3 at G3 R3 I3
  go_wp2_with (fail)
  refine (files_calls I3.out (G3.out.fine (by decide))).mono ?_
  rintro e w4 ⟨v4, rfl, hR, hb⟩
  have R4 := Aside0.mk hR
  have B4 : Aside0 (Below w.heap.size w w4) := ⟨B3.out.trans (hb.mono B3.out.size)⟩
  have I4 := Aside0.mk (I3.out.bound.below hb)
  have S4 : Aside0 (w3.heap.size ≤ w4.heap.size) := ⟨hb.size⟩
  have P40 : Aside0 (Pref s3 [filesL s3.now]) := ⟨by rw [← R3.out.2]; exact Pref.init R3.out.1 G3.out (by decide) R3.out.2⟩
  clear hR hb I3 R3
  obtain ⟨A4, c4, rfl, _⟩ := Kd.R_slice R4.out
  go_wp2_with ((with_reducible refine gate_dst (N := 21) rfl ?_); refine Halt.out ?_)
  refine ⟨?_⟩
  refine Kd.R_lit kL (w0 := w4) w.heap.size 41 rfl (N := 21) rfl (xs := [filesL s3.now]) (inner := [.slice A4 (filesL s3.now).length c4]) (ok := fun k => w3.heap.size ≤ k) (okp := fun k => w3.heap.size ≤ k ∧ k < w4.heap.size) ?hq ?hp (fun _ hk => hk.1) S4.out ?hb B4.out.size (show 1 ≤ 9223372036854775807 by decide) ?_
  case hq => first | (go_simp; done) | (go_simp; rfl)
  case hp => exact Reps.front (show kL.M _ _ _ (filesL s3.now) [.slice A4 (filesL s3.now).length c4] from ⟨_, rfl, Kd.R_mono (Kd.R_bound (Kd.R_lower R4.out B3.out.size)) (fun k hk => ⟨hk.1, hk.2.2.1⟩)⟩) rfl (Reps.none _ _) rfl
  case hb => exact Below.mono (Below.refl w4.heap.size w4) B4.out.size
  intro v5 w5 hR hB hG _
  have R5 := Aside0.mk hR
  have B5 : Aside0 (Below w.heap.size w w5) := ⟨B4.out.trans hB⟩
  have I5 := Aside0.mk (I4.out.step (W' := w5) (fun k _ hk => hG.block k hk (by simp)))
  clear hR hB hG R4 B4 I4
  go_wp2_with (fail)
  have P4 : Aside0 (Pref s3 [filesL s3.now]) := ⟨P40.out⟩
  clear P40
  go_loopg [8, 9] 21 (fun kq v8 v9 w' => ∃ (j : Nat) (st : DK) (M : List (List S48)) (okd okm : Nat → Prop), v9 = .int .i64 (j : Int) ∧ Aside0 (j + kq = 21 ∧ j ≤ 20) ∧ Aside0 (IsD w' d okd st) ∧ Aside0 (Good (30 + j) st) ∧ Aside0 (Pref st M) ∧ Aside0 (kL.R 41 w' w.heap.size okm v8 M) ∧ Aside0 ((∀ k, okd k → okm k → False) ∧ (∀ k, okd k → w.heap.size ≤ k)) ∧ Aside0 (Below w.heap.size w w'))
  case atStart => exact ⟨0, s3, _, _, _, rfl, ⟨by omega, by omega⟩, I5, G3, P4, R5, ⟨fun k h1 h2 => absurd h1.2 (Nat.not_lt.2 h2), fun k h => h.1⟩, B5⟩
  case round =>
    obtain ⟨j, st, M, okd, okm, rfl, HJ, HI, HG, HP, HR, HO, HB⟩ := hrel
    cases gk with
    | zero => have := HJ.out; omega
    | succ k1 =>
      by_cases hj : j < m.length
      · have hlt : ((j : Int) < (m.length : Int)) = True := eq_true (by omega)
        by_cases hj2 : j < 20
        · have hlt2 : ((j : Int) < (20 : Int)) = True := eq_true (by omega)
          have J1 : Aside0 (30 + j ≤ 1000) := ⟨by omega⟩
          obtain ⟨ad, B', m', cc, rfl, h0, h1, h2, h3, h4, h5, h6, h7, h8, hld, hm8⟩ := at_A (Kd.C_below HD.out HB.out) j hj
          have hx : m.getD j zA ∈ m := by rw [List.getD_eq_getElem?_getD, List.getElem?_eq_getElem hj]; exact List.getElem_mem hj
          have HOK := Aside0.mk (HM.out _ hx)
          obtain ⟨x, hxx⟩ : ∃ x, x = m.getD j zA := ⟨_, rfl⟩
          rw [← hxx] at h0 hld HOK
          have HLD := Aside0.mk hld
          clear hld hm8 h1 h2 h3 h4 h5 h6 h7 h8 hx hxx
          by_cases hk0 : 0 ≤ x.f0
          · have g1 : (x.f0 ≥ 0) = True := eq_true hk0
            by_cases hk4 : x.f0 ≤ 4
            · have g2 : (x.f0 ≤ 4) = True := eq_true hk4
              have HK : Aside0 (0 ≤ x.f0 ∧ x.f0 ≤ 4) := ⟨hk0, hk4⟩
              have I5 := Aside0.mk (HI.out.bound.mono (ok' := fun k => (okd k ∧ k < wr.heap.size) ∨ wr.heap.size ≤ k) (fun k hk => Or.inl hk))
              clear hk0 hk4
              go_wp2_with ((with_reducible refine gate_dst (N := 51) rfl ?_); refine Halt.out ?_)
              refine ⟨?_⟩
              refine gate_guard (by rfl) ?_
              refine Kd.event_run (v := .agg #[.int .i64 x.f0, .string x.f1, .string x.f2, .string x.f3, .int .i64 x.f4, .int .i64 x.f5.f0, .int .i64 x.f5.f1, .int .i64 x.f5.f2, .slice B' m' cc]) (w1 := wr) rfl ?hr ?_
              case hr => exact load_run rfl rfl HLD.out
              go_wp2_with (fail)
              refine (call_calls I5.out (fun k hk => Or.inr hk) HG.out J1.out x.f0 x.f1 x.f2 x.f3 x.f4 x.f5.f0 x.f5.f1 x.f5.f2 B' m' cc HK.out HOK.out.1 HOK.out.2.1 HOK.out.2.2).mono ?_
              rintro e w6 ⟨rfl, hI, hb⟩
              have I6 := Aside0.mk hI
              have G6 := Aside0.mk (HG.out.call (n := x.f4) J1.out HK.out HOK.out.1 HOK.out.2.1 HOK.out.2.2)
              have B6 : Aside0 (Below w.heap.size w w6) := ⟨HB.out.trans ((hb.mono (ok' := fun k => w.heap.size ≤ k) (fun k _ hk => hk.elim (fun h => HO.out.2 k h.1) (fun h => Nat.le_trans HB.out.size h))).below HB.out.size)⟩
              have R6 : Aside0 (kL.R 41 w6 w.heap.size (fun k => okm k ∧ k < wr.heap.size) u8 M) := ⟨Kd.R_mono (Kd.R_step (Kd.R_bound HR.out) (fun k hk hlt => hb.block k hlt (fun e => e.elim (fun h => HO.out.1 k h.1 hk.1) (fun h => absurd hlt (Nat.not_lt.2 h))))) (fun k hk => ⟨hk.1, hk.2.2.1⟩)⟩
              have O6 : Aside0 ((∀ k, ((okd k ∧ k < wr.heap.size) ∨ wr.heap.size ≤ k) → (okm k ∧ k < wr.heap.size) → False) ∧ (∀ k, ((okd k ∧ k < wr.heap.size) ∨ wr.heap.size ≤ k) → w.heap.size ≤ k)) := ⟨fun k h1 h2 => h1.elim (fun h => HO.out.1 k h.1 h2.1) (fun h => absurd h2.2 (Nat.not_lt.2 h)), fun k hk => hk.elim (fun h => HO.out.2 k h.1) (fun h => Nat.le_trans HB.out.size h)⟩
              have CC := Aside0.mk (call_cases HG.out J1.out (n := x.f4) HK.out HOK.out.1 HOK.out.2.1 HOK.out.2.2)
              have S6 : Aside0 (wr.heap.size ≤ w6.heap.size) := ⟨hb.size⟩
              clear hI hb HI HR HO HB h0 g1 g2
              rcases CC.out with ⟨e2, he, hc⟩ | ⟨c2, _, _, _, hc, _⟩
              · rw [hc] at I6 G6 ⊢
                have ge : (e2 == 0) = false := beq_eq_false_iff_ne.mpr he
                clear hc he CC
                go_wp2
                go_roundg k1
                case measure => have := HJ.out; omega
                case rel => exact ⟨j + 1, st, M, _, _, rfl, ⟨by have := HJ.out; omega, by omega⟩, I6, G6, HP, R6, O6, B6⟩
              · rw [hc] at I6 G6 ⊢
                have PA := Aside0.mk (HP.out.add HG.out c2 G6.out (by have := HJ.out; omega))
                have ML : Aside0 (M.length ≤ 60) := ⟨by have := HP.out.len; have := HG.out.wl; omega⟩
                clear hc CC HG HP
                go_wp2_with (fail)
                refine (files_calls I6.out (G6.out.fine (Nat.le_trans (Nat.succ_le_succ (Nat.add_le_add_left (Nat.le_of_lt hj2) 30)) (by decide)))).mono ?_
                rintro e w7 ⟨v7, rfl, hR, hb⟩
                obtain ⟨A7, c7, rfl, _⟩ := Kd.R_slice hR
                have I7 := Aside0.mk (I6.out.bound.below hb)
                have R7 := Aside0.mk (Kd.R_below R6.out hb)
                have B7 : Aside0 (Below w.heap.size w w7) := ⟨B6.out.trans (hb.mono B6.out.size)⟩
                have S7 : Aside0 (w6.heap.size ≤ w7.heap.size) := ⟨hb.size⟩
                have N7 := Aside0.mk hR
                clear hR hb I6
                go_wp2_with (first | ((with_reducible refine gate_builtin (b := .append) (xs := #[.tmp 55, .tmp 58]) rfl ?_); at_builtin; refine Kd.R_append kL (w0 := w) w.heap.size rfl (.tmp 55) (.tmp 58) 52 41 (.slice none 0 0) 24 rfl Try.underlying52 infoL rfl (by decide) (by decide) u8 M (filesL (addK st c2).now) [.slice A7 (filesL (addK st c2).now).length c7] (fun k => (okm k ∧ k < wr.heap.size) ∨ w6.heap.size ≤ k) (fun k => w6.heap.size ≤ k ∧ k < w7.heap.size) rfl rfl ?aP ?aK ?aF (Kd.R_mono R7.out (fun k hk => Or.inl hk)) B7.out B7.out.size ?aL ?_; (case aP => exact ⟨_, rfl, Kd.R_mono (Kd.R_bound (Kd.R_lower N7.out B6.out.size)) (fun k hk => ⟨hk.1, hk.2.2.1⟩)⟩); (case aK => exact fun k hk => ⟨Or.inr hk.1, fun e => absurd (Nat.lt_of_lt_of_le (R7.out.1 k e.symm).2 S6.out) (Nat.not_lt.2 hk.1)⟩); (case aF => exact fun k hk => Or.inr (Nat.le_trans S7.out hk)); (case aL => have := ML.out; omega); intro v8 w8 ho hb hg hat; have R8 := Aside0.mk ho; have B8 := Aside0.mk hb; have I8 := Aside0.mk (I7.out.step (W' := w8) (fun k hk hlt => hg.block k hlt (fun e => O6.out.1 k hk.1 (R7.out.1 k e.symm)))); clear ho hb hg hat))
                go_roundg k1
                case measure => have := HJ.out; omega
                case rel => exact ⟨j + 1, addK st c2, _, _, _, rfl, ⟨by have := HJ.out; omega, by omega⟩, I8, G6, PA, R8, ⟨fun k h1 h2 => h2.elim (fun h => O6.out.1 k h1.1 h) (fun h => absurd h1.2 (Nat.not_lt.2 h)), fun k hk => O6.out.2 k hk.1⟩, B8⟩
            · have g2 : (x.f0 ≤ 4) = False := eq_false hk4
              clear hk0 hk4
              go_wp2
              go_roundg k1
              case measure => have := HJ.out; omega
              case rel => exact ⟨j + 1, st, M, _, _, rfl, ⟨by have := HJ.out; omega, by omega⟩, HI, ⟨HG.out.mono (Nat.le_succ _)⟩, HP, HR, HO, HB⟩
          · have g1 : (x.f0 ≥ 0) = False := eq_false hk0
            clear hk0
            go_wp2
            go_roundg k1
            case measure => have := HJ.out; omega
            case rel => exact ⟨j + 1, st, M, _, _, rfl, ⟨by have := HJ.out; omega, by omega⟩, HI, ⟨HG.out.mono (Nat.le_succ _)⟩, HP, HR, HO, HB⟩
        · have hlt2 : ((j : Int) < (20 : Int)) = False := eq_false (by omega)
          have J2 : Aside0 (30 + j ≤ 1000) := ⟨by have := HJ.out; omega⟩
          obtain ⟨A8, c8, rfl, _⟩ := Kd.R_slice HR.out
          obtain ⟨nw, hnw⟩ : ∃ nw, nw = st.wait.length := ⟨_, rfl⟩
          have hM : M.length = nw + 1 := by rw [hnw]; exact HP.out.len
          have HNW := Aside0.mk hnw
          have HMM := Aside0.mk hM
          obtain ⟨k2, hk1, hk2, hk3, hk4⟩ := HP.out.fail keep
          rw [hM] at hk1 hk2
          have HK3 := Aside0.mk hk3
          have HK4 := Aside0.mk hk4
          have hk2' : min (max keep 0) (nw : Int) = (k2 : Int) := by rw [← hk2]; omega
          obtain ⟨ln, hln⟩ : ∃ ln, ln = M.length := ⟨_, rfl⟩
          have hl2 : ln = nw + 1 := hln.trans hM
          have z1 : ((ln : Int) - 1) = (nw : Int) := by omega
          have HL2 := Aside0.mk hl2
          have hnb : nw ≤ 60 := by have := HG.out.wl; have := HJ.out; omega
          have z3 : ((nw : Int) != (nw : Int)) = false := by simp
          have z4 : IntKind.i64.wrap (nw : Int) = (nw : Int) := by rw [IntKind.wrap_i64]; omega
          have z5 : (IntKind.i64.wrap (nw : Int)).toNat = nw := by rw [z4]; rfl
          have z6 : min (max keep 0) (IntKind.i64.wrap (nw : Int)) = (k2 : Int) := by rw [z4]; exact hk2'
          clear hk3 hk2 hk4
          go_wp2_with (fail)
          refine (waits_calls HI.out).mono ?_
          rintro e w9 ⟨rfl, hw9⟩
          rw [hw9, ← HNW.out, ← hln]
          clear hw9 hnw hM hln hl2
          have I5 := Aside0.mk (HI.out.bound.mono (ok' := fun k => (okd k ∧ k < wr.heap.size) ∨ wr.heap.size ≤ k) (fun k hk => Or.inl hk))
          go_wp2_with (fail)
          refine (fail_calls I5.out (fun k hk => Or.inr hk) HG.out.val keep 0).mono ?_
          rintro e w10 ⟨rfl, hI, hb⟩
          rw [failK_up HG.out.up] at hI
          have I10 := Aside0.mk hI
          have K10 := Aside0.mk hb
          clear hI hb I5
          go_wp2_with (fail)
          refine (up_calls I10.out).mono ?_
          rintro e w11 ⟨rfl, hI, hb⟩
          have I11 := Aside0.mk hI
          have K11 := Aside0.mk (K10.out.trans hb)
          clear hI hb I10 K10
          have R11 := Aside0.mk (Kd.R_step (Kd.R_bound HR.out) (fun k hk hlt => K11.out.block k hlt (fun e => e.elim (fun h => HO.out.1 k h.1 hk.1) (fun h => absurd hlt (Nat.not_lt.2 h)))))
          go_wp2_with (fail)
          have F11 : Aside0 (Fine { st with sure := failF st keep 0, now := failF st keep 0, wait := [], down := false }) := ⟨⟨rfl, HK4.out.1, HK4.out.2.1, Nat.le_trans HK4.out.2.2 (by decide)⟩⟩
          have CM := Aside0.mk (Kd.R_reads' R11.out).2.2
          obtain ⟨ad8, cs8, e8, _, hK8, hc8⟩ := Kd.C_get CM.out [] (k2 : Int) (by omega) (by rw [HMM.out]; omega)
          obtain ⟨A9, c9, rfl, hl9, hC9⟩ := hK8
          have hM9 : M.getD (k2 : Int).toNat [] = filesL (failF st keep 0) := by rw [Int.toNat_natCast, List.getD_eq_getElem?_getD, HK3.out]; rfl
          rw [hM9] at hl9 hC9 hc8
          have h9 : w11.cell? (ad8.add k2) = some (.slice A9 (filesL (failF st keep 0)).length c9) := by
            have := hc8 0 _ rfl
            rwa [Int.toNat_natCast, show k2 * kL.sz + 0 = k2 from Nat.mul_one _] at this
          have C9 := Aside0.mk hC9
          have L9 := Aside0.mk hl9
          have BLT := Aside0.mk (cell_lt h9)
          subst e8
          clear hc8 hM9 hC9 hl9
          have B11 : Aside0 (Below w.heap.size w w11) := ⟨HB.out.trans ((K11.out.mono (ok' := fun k => w.heap.size ≤ k) (fun k _ hk => hk.elim (fun h => HO.out.2 k h.1) (fun h => Nat.le_trans HB.out.size h))).below HB.out.size)⟩
          have FL : Aside0 ((filesL (failF st keep 0)).length ≤ 1000000000) := ⟨by have := HK4.out.2.2; simp only [filesL, List.length_map]; omega⟩
          have b1 : (0 : Int) ≤ (k2 : Int) := by omega
          have b2 : (k2 : Int) < (ln : Int) := by have := HL2.out; omega
          have hln0 : ln ≤ 61 := by have := HL2.out; omega
          refine start_ (n := 13) (S := fun w' => w'.cell? (ad8.add k2) = some (.slice A9 (filesL (failF st keep 0)).length c9)) (ds := []) #[false, false, false, false, false, false, false, false, false, false, false, false, false] (by kernel_rfl) rfl rfl h9 (fun hHeld => ?_)
          refine pure_ (i := 0) (N := some 71) (v := ?_) (a' := ?_) #[true, false, false, false, false, false, false, false, false, false, false, false, false] rfl rfl (by kernel_rfl) (fun _ _ _ h => h) (Or.inl ⟨by rfl, ?_⟩) ?_ ?_
          rotate_left
          · intro w'
            go_simp
            with_reducible rfl
          rotate_left
          · simp only [Act.put, List.setIfInBounds_toArray, List.set_cons_zero, List.set_cons_succ]
            rfl
          refine pure_ (i := 2) (N := some 73) (v := ?_) (a' := ?_) #[true, false, true, false, false, false, false, false, false, false, false, false, false] rfl rfl (by kernel_rfl) (fun _ _ _ h => h) (Or.inl ⟨by rfl, ?_⟩) ?_ ?_
          rotate_left
          · intro w'
            go_simp
            with_reducible rfl
          rotate_left
          · simp only [Act.put, List.setIfInBounds_toArray, List.set_cons_zero, List.set_cons_succ]
            rfl
          refine pure_ (i := 3) (N := some 74) (v := ?_) (a' := ?_) #[true, false, true, true, false, false, false, false, false, false, false, false, false] rfl rfl (by kernel_rfl) (fun _ _ _ h => h) (Or.inl ⟨by rfl, ?_⟩) ?_ ?_
          rotate_left
          · intro w'
            go_simp
            with_reducible rfl
          rotate_left
          · simp only [Act.put, List.setIfInBounds_toArray, List.set_cons_zero, List.set_cons_succ]
            rfl
          refine pure_ (i := 4) (N := some 75) (v := ?_) (a' := ?_) #[true, false, true, true, true, false, false, false, false, false, false, false, false] rfl rfl (by kernel_rfl) (fun _ _ _ h => h) (Or.inl ⟨by rfl, ?_⟩) ?_ ?_
          rotate_left
          · intro w'
            go_simp
            with_reducible rfl
          rotate_left
          · simp only [Act.put, List.setIfInBounds_toArray, List.set_cons_zero, List.set_cons_succ]
            rfl
          refine pure_ (i := 5) (N := some 76) (v := ?_) (a' := ?_) #[true, false, true, true, true, true, false, false, false, false, false, false, false] rfl rfl (by kernel_rfl) (fun _ _ _ h => h) (Or.inl ⟨by rfl, ?_⟩) ?_ ?_
          rotate_left
          · intro w'
            go_simp
            with_reducible rfl
          rotate_left
          · simp only [Act.put, List.setIfInBounds_toArray, List.set_cons_zero, List.set_cons_succ]
            rfl
          refine pure_ (i := 6) (N := some 77) (v := ?_) (a' := ?_) #[true, false, true, true, true, true, true, false, false, false, false, false, false] rfl rfl (by kernel_rfl) (fun _ _ _ h => h) (Or.inl ⟨by rfl, ?_⟩) ?_ ?_
          rotate_left
          · intro w'
            go_simp
            with_reducible rfl
          rotate_left
          · simp only [Act.put, List.setIfInBounds_toArray, List.set_cons_zero, List.set_cons_succ]
            rfl
          refine pure_ (i := 7) (N := some 78) (v := ?_) (a' := ?_) #[true, false, true, true, true, true, true, true, false, false, false, false, false] rfl rfl (by kernel_rfl) (fun _ _ _ h => h) (Or.inl ⟨by rfl, ?_⟩) ?_ ?_
          rotate_left
          · intro w'
            go_simp
            with_reducible rfl
          rotate_left
          · simp only [Act.put, List.setIfInBounds_toArray, List.set_cons_zero, List.set_cons_succ]
            rfl
          refine pure_ (i := 8) (N := some 79) (v := ?_) (a' := ?_) #[true, false, true, true, true, true, true, true, true, false, false, false, false] rfl rfl (by kernel_rfl) (fun _ _ _ h => h) (Or.inl ⟨by rfl, ?_⟩) ?_ ?_
          rotate_left
          · intro w'
            go_simp
            with_reducible rfl
          rotate_left
          · simp only [Act.put, List.setIfInBounds_toArray, List.set_cons_zero, List.set_cons_succ]
            rfl
          refine pure_ (i := 9) (N := some 80) (v := ?_) (a' := ?_) #[true, false, true, true, true, true, true, true, true, true, false, false, false] rfl rfl (by kernel_rfl) (fun _ _ _ h => h) (Or.inl ⟨by rfl, ?_⟩) ?_ ?_
          rotate_left
          · intro w'
            go_simp
            with_reducible rfl
          rotate_left
          · simp only [Act.put, List.setIfInBounds_toArray, List.set_cons_zero, List.set_cons_succ]
            rfl
          refine take_ (i := 10) (N := some 81) (v := ?_) (a' := ?_) #[true, false, true, true, true, true, true, true, true, true, true, false, false] rfl rfl (by kernel_rfl) (fun _ _ _ h => h) (Or.inl ⟨by rfl, ?_⟩) (by first | exact hHeld | assumption) ?_ ?_
          rotate_left
          · rintro w' s0
            go_simp
            with_reducible rfl
          rotate_left
          · simp only [Act.put, List.setIfInBounds_toArray, List.set_cons_zero, List.set_cons_succ]
            rfl
          refine one_ (i := 1) (N := some 72) #[true, true, true, true, true, true, true, true, true, true, true, false, false] rfl rfl (by kernel_rfl) (by decide) (fun K hK => ?_)
          refine call_ 20 #[.pointer (some ⟨d, 0, none⟩)] (by rfl) rfl (by first | (go_simp; done) | (go_simp; rfl)) ?_
          refine (files_calls (w := w11.drew) (I11.out.step (fun _ _ _ => rfl)) F11.out).mono ?_
          rintro e w12 ⟨v12, rfl, hR12, hb12⟩
          obtain ⟨A12, c12, rfl, hl12, hC12⟩ := Kd.R_reads hR12
          have q0 : w12.cell? (ad8.add k2) = some (.slice A9 (filesL (failF st keep 0)).length c9) := (hb12.cell BLT.out).trans h9
          have D12 := Aside0.mk hC12
          have L12 := Aside0.mk hl12
          have C12 := Aside0.mk (Kd.C_below (Kd.C_below C9.out (pw_below_drewN (Below.refl _ _) 1)) hb12)
          have S12 : Aside0 (w11.heap.size ≤ w12.heap.size) := ⟨hb12.size⟩
          have B12 : Aside0 (Below w.heap.size w w12) := ⟨B11.out.drew.trans (hb12.mono B11.out.size)⟩
          clear hR12 hb12 hl12 hC12
          refine ⟨_, rfl, hK.out _ _ q0 (fun hHeld => ?_)⟩
          clear hK K
          refine norm_ (a' := ?_) ?_ ?_
          rotate_left
          · show Act.put _ (some 72) _ = _
            simp only [Act.put, List.setIfInBounds_toArray, List.set_cons_zero, List.set_cons_succ]
            rfl
          refine one_ (i := 11) (N := some 82) #[true, true, true, true, true, true, true, true, true, true, true, true, false] rfl rfl (by kernel_rfl) (by decide) (fun K hK => ?_)
          refine call_ 23 #[.slice A12 (filesL (failF st keep 0)).length c12, .slice A9 (filesL (failF st keep 0)).length c9] (by rfl) rfl (by first | (go_simp; done) | (go_simp; rfl)) ?_
          refine (same_calls _ A12 A9 c12 c9 _ D12.out C12.out L12.out L9.out FL.out).mono ?_
          rintro e w13 ⟨rfl, hb13⟩
          have q1 : w13.cell? (ad8.add k2) = some (.slice A9 (filesL (failF st keep 0)).length c9) := (hb13.cell (Nat.lt_of_lt_of_le BLT.out S12.out)).trans q0
          have B13 : Aside0 (Below w.heap.size w w13) := ⟨B12.out.trans (hb13.mono B12.out.size)⟩
          clear hb13
          refine ⟨_, rfl, hK.out _ _ q1 (fun hHeld => ?_)⟩
          clear hK K
          refine norm_ (a' := ?_) ?_ ?_
          rotate_left
          · show Act.put _ (some 82) _ = _
            simp only [Act.put, List.setIfInBounds_toArray, List.set_cons_zero, List.set_cons_succ]
            rfl
          refine pure_ (i := 12) (N := some 6) (v := ?_) (a' := ?_) #[true, true, true, true, true, true, true, true, true, true, true, true, true] rfl rfl (by kernel_rfl) (fun _ _ _ h => h) (Or.inl ⟨by rfl, ?_⟩) ?_ ?_
          rotate_left
          · intro w'
            go_simp
            with_reducible rfl
          rotate_left
          · simp only [Act.put, List.setIfInBounds_toArray, List.set_cons_zero, List.set_cons_succ]
            rfl
          refine done_ (by kernel_rfl) ?_
          clear hHeld
          go_wp2
          go_ret
          exact ⟨rfl, B13.out⟩
      · have hlt : ((j : Int) < (m.length : Int)) = False := eq_false (by omega)
        have J2 : Aside0 (30 + j ≤ 1000) := ⟨by have := HJ.out; omega⟩
        obtain ⟨A8, c8, rfl, _⟩ := Kd.R_slice HR.out
        obtain ⟨nw, hnw⟩ : ∃ nw, nw = st.wait.length := ⟨_, rfl⟩
        have hM : M.length = nw + 1 := by rw [hnw]; exact HP.out.len
        have HNW := Aside0.mk hnw
        have HMM := Aside0.mk hM
        obtain ⟨k2, hk1, hk2, hk3, hk4⟩ := HP.out.fail keep
        rw [hM] at hk1 hk2
        have HK3 := Aside0.mk hk3
        have HK4 := Aside0.mk hk4
        have hk2' : min (max keep 0) (nw : Int) = (k2 : Int) := by rw [← hk2]; omega
        obtain ⟨ln, hln⟩ : ∃ ln, ln = M.length := ⟨_, rfl⟩
        have hl2 : ln = nw + 1 := hln.trans hM
        have z1 : ((ln : Int) - 1) = (nw : Int) := by omega
        have HL2 := Aside0.mk hl2
        have hnb : nw ≤ 60 := by have := HG.out.wl; have := HJ.out; omega
        have z3 : ((nw : Int) != (nw : Int)) = false := by simp
        have z4 : IntKind.i64.wrap (nw : Int) = (nw : Int) := by rw [IntKind.wrap_i64]; omega
        have z5 : (IntKind.i64.wrap (nw : Int)).toNat = nw := by rw [z4]; rfl
        have z6 : min (max keep 0) (IntKind.i64.wrap (nw : Int)) = (k2 : Int) := by rw [z4]; exact hk2'
        clear hk3 hk2 hk4
        go_wp2_with (fail)
        refine (waits_calls HI.out).mono ?_
        rintro e w9 ⟨rfl, hw9⟩
        rw [hw9, ← HNW.out, ← hln]
        clear hw9 hnw hM hln hl2
        have I5 := Aside0.mk (HI.out.bound.mono (ok' := fun k => (okd k ∧ k < wr.heap.size) ∨ wr.heap.size ≤ k) (fun k hk => Or.inl hk))
        go_wp2_with (fail)
        refine (fail_calls I5.out (fun k hk => Or.inr hk) HG.out.val keep 0).mono ?_
        rintro e w10 ⟨rfl, hI, hb⟩
        rw [failK_up HG.out.up] at hI
        have I10 := Aside0.mk hI
        have K10 := Aside0.mk hb
        clear hI hb I5
        go_wp2_with (fail)
        refine (up_calls I10.out).mono ?_
        rintro e w11 ⟨rfl, hI, hb⟩
        have I11 := Aside0.mk hI
        have K11 := Aside0.mk (K10.out.trans hb)
        clear hI hb I10 K10
        have R11 := Aside0.mk (Kd.R_step (Kd.R_bound HR.out) (fun k hk hlt => K11.out.block k hlt (fun e => e.elim (fun h => HO.out.1 k h.1 hk.1) (fun h => absurd hlt (Nat.not_lt.2 h)))))
        go_wp2_with (fail)
        have F11 : Aside0 (Fine { st with sure := failF st keep 0, now := failF st keep 0, wait := [], down := false }) := ⟨⟨rfl, HK4.out.1, HK4.out.2.1, Nat.le_trans HK4.out.2.2 (by decide)⟩⟩
        have CM := Aside0.mk (Kd.R_reads' R11.out).2.2
        obtain ⟨ad8, cs8, e8, _, hK8, hc8⟩ := Kd.C_get CM.out [] (k2 : Int) (by omega) (by rw [HMM.out]; omega)
        obtain ⟨A9, c9, rfl, hl9, hC9⟩ := hK8
        have hM9 : M.getD (k2 : Int).toNat [] = filesL (failF st keep 0) := by rw [Int.toNat_natCast, List.getD_eq_getElem?_getD, HK3.out]; rfl
        rw [hM9] at hl9 hC9 hc8
        have h9 : w11.cell? (ad8.add k2) = some (.slice A9 (filesL (failF st keep 0)).length c9) := by
          have := hc8 0 _ rfl
          rwa [Int.toNat_natCast, show k2 * kL.sz + 0 = k2 from Nat.mul_one _] at this
        have C9 := Aside0.mk hC9
        have L9 := Aside0.mk hl9
        have BLT := Aside0.mk (cell_lt h9)
        subst e8
        clear hc8 hM9 hC9 hl9
        have B11 : Aside0 (Below w.heap.size w w11) := ⟨HB.out.trans ((K11.out.mono (ok' := fun k => w.heap.size ≤ k) (fun k _ hk => hk.elim (fun h => HO.out.2 k h.1) (fun h => Nat.le_trans HB.out.size h))).below HB.out.size)⟩
        have FL : Aside0 ((filesL (failF st keep 0)).length ≤ 1000000000) := ⟨by have := HK4.out.2.2; simp only [filesL, List.length_map]; omega⟩
        have b1 : (0 : Int) ≤ (k2 : Int) := by omega
        have b2 : (k2 : Int) < (ln : Int) := by have := HL2.out; omega
        have hln0 : ln ≤ 61 := by have := HL2.out; omega
        refine start_ (n := 13) (S := fun w' => w'.cell? (ad8.add k2) = some (.slice A9 (filesL (failF st keep 0)).length c9)) (ds := []) #[false, false, false, false, false, false, false, false, false, false, false, false, false] (by kernel_rfl) rfl rfl h9 (fun hHeld => ?_)
        refine pure_ (i := 0) (N := some 71) (v := ?_) (a' := ?_) #[true, false, false, false, false, false, false, false, false, false, false, false, false] rfl rfl (by kernel_rfl) (fun _ _ _ h => h) (Or.inl ⟨by rfl, ?_⟩) ?_ ?_
        rotate_left
        · intro w'
          go_simp
          with_reducible rfl
        rotate_left
        · simp only [Act.put, List.setIfInBounds_toArray, List.set_cons_zero, List.set_cons_succ]
          rfl
        refine pure_ (i := 2) (N := some 73) (v := ?_) (a' := ?_) #[true, false, true, false, false, false, false, false, false, false, false, false, false] rfl rfl (by kernel_rfl) (fun _ _ _ h => h) (Or.inl ⟨by rfl, ?_⟩) ?_ ?_
        rotate_left
        · intro w'
          go_simp
          with_reducible rfl
        rotate_left
        · simp only [Act.put, List.setIfInBounds_toArray, List.set_cons_zero, List.set_cons_succ]
          rfl
        refine pure_ (i := 3) (N := some 74) (v := ?_) (a' := ?_) #[true, false, true, true, false, false, false, false, false, false, false, false, false] rfl rfl (by kernel_rfl) (fun _ _ _ h => h) (Or.inl ⟨by rfl, ?_⟩) ?_ ?_
        rotate_left
        · intro w'
          go_simp
          with_reducible rfl
        rotate_left
        · simp only [Act.put, List.setIfInBounds_toArray, List.set_cons_zero, List.set_cons_succ]
          rfl
        refine pure_ (i := 4) (N := some 75) (v := ?_) (a' := ?_) #[true, false, true, true, true, false, false, false, false, false, false, false, false] rfl rfl (by kernel_rfl) (fun _ _ _ h => h) (Or.inl ⟨by rfl, ?_⟩) ?_ ?_
        rotate_left
        · intro w'
          go_simp
          with_reducible rfl
        rotate_left
        · simp only [Act.put, List.setIfInBounds_toArray, List.set_cons_zero, List.set_cons_succ]
          rfl
        refine pure_ (i := 5) (N := some 76) (v := ?_) (a' := ?_) #[true, false, true, true, true, true, false, false, false, false, false, false, false] rfl rfl (by kernel_rfl) (fun _ _ _ h => h) (Or.inl ⟨by rfl, ?_⟩) ?_ ?_
        rotate_left
        · intro w'
          go_simp
          with_reducible rfl
        rotate_left
        · simp only [Act.put, List.setIfInBounds_toArray, List.set_cons_zero, List.set_cons_succ]
          rfl
        refine pure_ (i := 6) (N := some 77) (v := ?_) (a' := ?_) #[true, false, true, true, true, true, true, false, false, false, false, false, false] rfl rfl (by kernel_rfl) (fun _ _ _ h => h) (Or.inl ⟨by rfl, ?_⟩) ?_ ?_
        rotate_left
        · intro w'
          go_simp
          with_reducible rfl
        rotate_left
        · simp only [Act.put, List.setIfInBounds_toArray, List.set_cons_zero, List.set_cons_succ]
          rfl
        refine pure_ (i := 7) (N := some 78) (v := ?_) (a' := ?_) #[true, false, true, true, true, true, true, true, false, false, false, false, false] rfl rfl (by kernel_rfl) (fun _ _ _ h => h) (Or.inl ⟨by rfl, ?_⟩) ?_ ?_
        rotate_left
        · intro w'
          go_simp
          with_reducible rfl
        rotate_left
        · simp only [Act.put, List.setIfInBounds_toArray, List.set_cons_zero, List.set_cons_succ]
          rfl
        refine pure_ (i := 8) (N := some 79) (v := ?_) (a' := ?_) #[true, false, true, true, true, true, true, true, true, false, false, false, false] rfl rfl (by kernel_rfl) (fun _ _ _ h => h) (Or.inl ⟨by rfl, ?_⟩) ?_ ?_
        rotate_left
        · intro w'
          go_simp
          with_reducible rfl
        rotate_left
        · simp only [Act.put, List.setIfInBounds_toArray, List.set_cons_zero, List.set_cons_succ]
          rfl
        refine pure_ (i := 9) (N := some 80) (v := ?_) (a' := ?_) #[true, false, true, true, true, true, true, true, true, true, false, false, false] rfl rfl (by kernel_rfl) (fun _ _ _ h => h) (Or.inl ⟨by rfl, ?_⟩) ?_ ?_
        rotate_left
        · intro w'
          go_simp
          with_reducible rfl
        rotate_left
        · simp only [Act.put, List.setIfInBounds_toArray, List.set_cons_zero, List.set_cons_succ]
          rfl
        refine take_ (i := 10) (N := some 81) (v := ?_) (a' := ?_) #[true, false, true, true, true, true, true, true, true, true, true, false, false] rfl rfl (by kernel_rfl) (fun _ _ _ h => h) (Or.inl ⟨by rfl, ?_⟩) (by first | exact hHeld | assumption) ?_ ?_
        rotate_left
        · rintro w' s0
          go_simp
          with_reducible rfl
        rotate_left
        · simp only [Act.put, List.setIfInBounds_toArray, List.set_cons_zero, List.set_cons_succ]
          rfl
        refine one_ (i := 1) (N := some 72) #[true, true, true, true, true, true, true, true, true, true, true, false, false] rfl rfl (by kernel_rfl) (by decide) (fun K hK => ?_)
        refine call_ 20 #[.pointer (some ⟨d, 0, none⟩)] (by rfl) rfl (by first | (go_simp; done) | (go_simp; rfl)) ?_
        refine (files_calls (w := w11.drew) (I11.out.step (fun _ _ _ => rfl)) F11.out).mono ?_
        rintro e w12 ⟨v12, rfl, hR12, hb12⟩
        obtain ⟨A12, c12, rfl, hl12, hC12⟩ := Kd.R_reads hR12
        have q0 : w12.cell? (ad8.add k2) = some (.slice A9 (filesL (failF st keep 0)).length c9) := (hb12.cell BLT.out).trans h9
        have D12 := Aside0.mk hC12
        have L12 := Aside0.mk hl12
        have C12 := Aside0.mk (Kd.C_below (Kd.C_below C9.out (pw_below_drewN (Below.refl _ _) 1)) hb12)
        have S12 : Aside0 (w11.heap.size ≤ w12.heap.size) := ⟨hb12.size⟩
        have B12 : Aside0 (Below w.heap.size w w12) := ⟨B11.out.drew.trans (hb12.mono B11.out.size)⟩
        clear hR12 hb12 hl12 hC12
        refine ⟨_, rfl, hK.out _ _ q0 (fun hHeld => ?_)⟩
        clear hK K
        refine norm_ (a' := ?_) ?_ ?_
        rotate_left
        · show Act.put _ (some 72) _ = _
          simp only [Act.put, List.setIfInBounds_toArray, List.set_cons_zero, List.set_cons_succ]
          rfl
        refine one_ (i := 11) (N := some 82) #[true, true, true, true, true, true, true, true, true, true, true, true, false] rfl rfl (by kernel_rfl) (by decide) (fun K hK => ?_)
        refine call_ 23 #[.slice A12 (filesL (failF st keep 0)).length c12, .slice A9 (filesL (failF st keep 0)).length c9] (by rfl) rfl (by first | (go_simp; done) | (go_simp; rfl)) ?_
        refine (same_calls _ A12 A9 c12 c9 _ D12.out C12.out L12.out L9.out FL.out).mono ?_
        rintro e w13 ⟨rfl, hb13⟩
        have q1 : w13.cell? (ad8.add k2) = some (.slice A9 (filesL (failF st keep 0)).length c9) := (hb13.cell (Nat.lt_of_lt_of_le BLT.out S12.out)).trans q0
        have B13 : Aside0 (Below w.heap.size w w13) := ⟨B12.out.trans (hb13.mono B12.out.size)⟩
        clear hb13
        refine ⟨_, rfl, hK.out _ _ q1 (fun hHeld => ?_)⟩
        clear hK K
        refine norm_ (a' := ?_) ?_ ?_
        rotate_left
        · show Act.put _ (some 82) _ = _
          simp only [Act.put, List.setIfInBounds_toArray, List.set_cons_zero, List.set_cons_succ]
          rfl
        refine pure_ (i := 12) (N := some 6) (v := ?_) (a' := ?_) #[true, true, true, true, true, true, true, true, true, true, true, true, true] rfl rfl (by kernel_rfl) (fun _ _ _ h => h) (Or.inl ⟨by rfl, ?_⟩) ?_ ?_
        rotate_left
        · intro w'
          go_simp
          with_reducible rfl
        rotate_left
        · simp only [Act.put, List.setIfInBounds_toArray, List.set_cons_zero, List.set_cons_succ]
          rfl
        refine done_ (by kernel_rfl) ?_
        clear hHeld
        go_wp2
        go_ret
        exact ⟨rfl, B13.out⟩
theorem w_DiskPrefix (W : World) (A0 : Option Addr) (c0 : Nat) (a0 : (List S40)) (l0 : a0.length ≤ c0) (C0 : Kd.C k40 W A0 a0.length a0) (g0 : (a0.length * 112 ≤ 140737488351232 ∧ ∀ y0 ∈ a0, ((Lit.int .i64 y0.f0).wf = true ∧ (y0.f1.size ≤ 140737488351232 ∧ (y0.f2.size ≤ 140737488351232 ∧ (y0.f3.size ≤ 140737488351232 ∧ ((Lit.int .i64 y0.f4).wf = true ∧ (((Lit.int .i64 y0.f5.f0).wf = true ∧ ((Lit.int .i64 y0.f5.f1).wf = true ∧ (Lit.int .i64 y0.f5.f2).wf = true)) ∧ (y0.f6.length * 24 ≤ 140737488351232 ∧ ∀ y1 ∈ y0.f6, ((Lit.int .i64 y1.f0).wf = true ∧ ((Lit.int .i64 y1.f1).wf = true ∧ (Lit.int .i64 y1.f2).wf = true))))))))))) (A1 : Option Addr) (c1 : Nat) (a1 : (List S40)) (l1 : a1.length ≤ c1) (C1 : Kd.C k40 W A1 a1.length a1) (g1 : (a1.length * 112 ≤ 140737488351232 ∧ ∀ y0 ∈ a1, ((Lit.int .i64 y0.f0).wf = true ∧ (y0.f1.size ≤ 140737488351232 ∧ (y0.f2.size ≤ 140737488351232 ∧ (y0.f3.size ≤ 140737488351232 ∧ ((Lit.int .i64 y0.f4).wf = true ∧ (((Lit.int .i64 y0.f5.f0).wf = true ∧ ((Lit.int .i64 y0.f5.f1).wf = true ∧ (Lit.int .i64 y0.f5.f2).wf = true)) ∧ (y0.f6.length * 24 ≤ 140737488351232 ∧ ∀ y1 ∈ y0.f6, ((Lit.int .i64 y1.f0).wf = true ∧ ((Lit.int .i64 y1.f1).wf = true ∧ (Lit.int .i64 y1.f2).wf = true))))))))))) (a2 : Int) (g2 : (Lit.int .i64 a2).wf = true) : Calls Try.prog 6 #[.slice A0 a0.length c0, .slice A1 a1.length c1, .int .i64 a2] W fun e w' => e = .returned (.bool true) ∧ Below W.heap.size W w' :=
  walkDiskPrefix W A0 c0 a0 C0 (fun a h => ⟨(g0.2 a h).2.1, (g0.2 a h).2.2.1, (g0.2 a h).2.2.2.1⟩) A1 c1 a1 C1 (fun a h => ⟨(g1.2 a h).2.1, (g1.2 a h).2.2.1, (g1.2 a h).2.2.2.1⟩) a2
end Go.Proofs.Ytabngibognlmoaa.Q
