/- DiskSynced's walk. -/
import Derived.Test.YtabngibognlmoaaDk5
namespace Go.Proofs.Ytabngibognlmoaa.Q
open Go.Maps Go.WideShapes Go.WideMaps Go.RowKit Go.Proofs.YtabngibognlmoaaW.PrintWords Go.Proofs.YtabngibognlmoaaW.PrintLast Go.Proofs.YtabngibognlmoaaW.PrintMore
set_option linter.unusedVariables false
set_option linter.unusedSimpArgs false
set_option maxHeartbeats 10000000
set_option maxRecDepth 100000
/-! DiskSynced: what a loss of power leaves -/
theorem insF_same {n s : ByteArray} : ∀ l : Fs, delF (insF (n, s) l) n = delF l n
  | [] => by simp [insF, delF, sameN_iff.2 rfl]
  | y :: r => by
    rw [insF]
    split
    · simp [delF, sameN_iff.2 rfl]
    · have ih := insF_same (n := n) (s := s) r
      unfold delF at ih ⊢
      rw [List.filter_cons, List.filter_cons, ih]
theorem delF_twice (l : Fs) (n : ByteArray) : delF (delF l n) n = delF l n := by
  unfold delF
  rw [List.filter_filter]
  congr 1
  funext p
  exact Bool.and_self _
theorem putF_put (l : Fs) (n s t : ByteArray) : putF (putF l n s) n t = putF l n t := by
  unfold putF
  rw [insF_same, delF_twice]
/-- the files, or the files with another text under the name O -/
def Over (L : Fs) (O : ByteArray) (l : Fs) : Prop := l = L ∨ ∃ s, l = putF L O s
theorem Over.put {L : Fs} {O : ByteArray} {l : Fs} (h : Over L O l) (s : ByteArray) : Over L O (putF l O s) := by
  rcases h with rfl | ⟨t, rfl⟩
  · exact Or.inr ⟨s, rfl⟩
  · exact Or.inr ⟨s, putF_put _ _ _ _⟩
theorem Over.doC {L : Fs} {O : ByteArray} {l : Fs} (h : Over L O l) {c : Chg} (hk : c.kind = 0) (hn : c.name = O) : Over L O (doC l c) := by
  unfold Q.doC
  rw [if_pos hk, hn]
  exact h.put _
theorem Over.fold {L : Fs} {O : ByteArray} : ∀ {cs : List Chg} {l : Fs}, Over L O l → (∀ c ∈ cs, c.kind = 0 ∧ c.name = O) → Over L O (cs.foldl Q.doC l)
  | [], _, h, _ => h
  | c :: cs, l, h, hc => Over.fold (cs := cs) (h.doC (hc c List.mem_cons_self).1 (hc c List.mem_cons_self).2) (fun x hx => hc x (List.mem_cons_of_mem _ hx))
theorem Over.fail {L : Fs} {O : ByteArray} {st : DK} (hs : st.sure = L) (hw : ∀ c ∈ st.wait, c.kind = 0 ∧ c.name = O) (keep torn : Int) : Over L O (failF st keep torn) := by
  have h1 : ∀ n, Over L O ((st.wait.take n).foldl Q.doC st.sure) := fun n => Over.fold (Or.inl hs) (fun c hc => hw c (List.mem_of_mem_take hc))
  unfold failF
  simp only
  split
  · rename_i c hc
    split
    · have := hw c (List.mem_of_getElem? hc)
      exact (h1 _).doC (c := tornC c torn) this.1 this.2
    · exact h1 _
  · exact h1 _
theorem delF_id {l : Fs} {n : ByteArray} (h : ∀ p ∈ l, p.1 ≠ n) : delF l n = l := by
  unfold delF
  refine List.filter_eq_self.2 (fun p hp => ?_)
  rw [Bool.not_eq_true', ← Bool.not_eq_true, sameN_iff]
  exact h p hp
theorem delF_one : ∀ {l : Fs}, Rises l → ∀ n, l.length ≤ (delF l n).length + 1
  | [], _, n => by simp
  | y :: r, h, n => by
    obtain ⟨h1, h2⟩ := List.pairwise_cons.1 h
    have ih := delF_one h2 n
    by_cases hy : y.1 = n
    · have e : delF r n = r := delF_id (fun p hp => by rw [← hy]; exact (ltN_ne (h1 p hp)).symm)
      have e2 : delF (y :: r) n = delF r n := by simp [delF, sameN_iff.2 hy]
      rw [e2, e]
      simp
    · have hs : sameN y.1 n = false := by rw [← Bool.not_eq_true, sameN_iff]; exact hy
      have e2 : delF (y :: r) n = y :: delF r n := by simp [delF, hs]
      rw [e2]
      simp only [List.length_cons]
      omega
structure OverP (L : Fs) (O : ByteArray) (l : Fs) : Prop where
  ris : Rises l
  named : Named l
  has : ∀ p ∈ L, ∃ q ∈ l, q.1 = p.1 ∧ (p.1 ≠ O → q.2 = p.2)
  len : l.length = L.length ∨ l.length = L.length + 1
theorem Over.props {L : Fs} {O : ByteArray} {l : Fs} (h : Over L O l) (hr : Rises L) (hn : Named L) (ho : nameS O = true) : OverP L O l := by
  rcases h with rfl | ⟨s, rfl⟩
  · exact ⟨hr, hn, fun p hp => ⟨p, hp, rfl, fun _ => rfl⟩, Or.inl rfl⟩
  · refine ⟨putF_rises _ _ hr, putF_named hn ho, fun p hp => ?_, ?_⟩
    · by_cases e : p.1 = O
      · exact ⟨(O, s), mem_putF.2 (Or.inl rfl), e.symm, fun h => absurd e h⟩
      · exact ⟨p, mem_putF.2 (Or.inr ⟨hp, e⟩), rfl, fun _ => rfl⟩
    · have h1 : (putF L O s).length = (delF L O).length + 1 := insF_len _ _
      have h2 := delF_len L O
      have h3 := delF_one hr O
      omega
abbrev nO : ByteArray := ⟨#[111, 116, 104, 101, 114, 45, 102, 105, 108, 101]⟩
abbrev nY : ByteArray := ⟨#[121]⟩
theorem nO_name : nameS nO = true := by decide +kernel
/-- an append to that file is made -/
theorem over_append {i : Nat} {st : DK} (h : Good i st) (hi : i ≤ 1000) (hr : st.room = -1) (s : ByteArray) (hs : s.size ≤ BM) : appendK st nO s = (addK st ⟨0, nO, ⟨#[]⟩, s, 0⟩, 0) ∧ Good (i + 1) (addK st ⟨0, nO, ⟨#[]⟩, s, 0⟩) ∧ CanC st ⟨0, nO, ⟨#[]⟩, s, 0⟩ := by
  have h0 : askE st.down [nO] = 0 := by
    unfold askE
    rw [h.up, if_neg (by simp), if_pos (by rw [List.all_cons, nO_name]; rfl)]
  have h1 : ¬ roomE st 0 s.size = true := by
    unfold roomE
    rw [decide_eq_true_iff, hr]
    intro e
    exact absurd e.1 (by decide)
  have hok : OkC st.now ⟨0, nO, ⟨#[]⟩, s, 0⟩ := h.okc hi (by decide) (by decide) (by decide) hs (fun e => absurd e (by decide))
  refine ⟨?_, h.add hok ⟨nO_name, fun e => absurd (show (0 : Int) = 2 from e) (by decide)⟩ hs, h.can hi hok⟩
  unfold appendK
  rw [if_pos h0, if_neg h1, changeK_none h.hit]
/-! DiskSynced's walk -/
theorem failK_up {st : DK} (h : st.down = false) (a b : Int) : failK st a b = { st with sure := failF st a b, now := failF st a b, wait := [], down := true } := if_neg (by rw [h]; simp)
theorem walkDiskSynced (w : World) (A : Option Addr) (c : Nat) (l : List S40) (hlc : l.length ≤ c) (hC : Kd.C k40 w A l.length l) (hl : ∀ a ∈ l, OkA a) (cs1 : Array Value) (a1 : S23) (K1 : k23.K w a1 cs1.toList) :
    Calls Try.prog 5 #[.slice A l.length c, .agg cs1] w fun e w' => e = .returned (.bool true) ∧ Below w.heap.size w w' := by
  obtain rfl : cs1 = #[.int .i64 a1.f0, .int .i64 a1.f1, .int .i64 a1.f2] := by
    have := k23_open K1
    cases cs1; simp_all
  obtain ⟨at0, keep, torn⟩ := a1
  simp only at K1 ⊢
  have huf := Try.underlying23
  have hu48 := Try.underlying48
  have BX := Aside0.mk (heap_alloc_new w (.cells #[.int .i64 at0, .int .i64 keep, .int .i64 torn] 23 (0, 0)))
  have B0 : Aside0 (Below w.heap.size w (w.alloc (.cells #[.int .i64 at0, .int .i64 keep, .int .i64 torn] 23 (0, 0)))) := ⟨below_alloc (Below.refl _ _) _⟩
  have LT0 : Aside0 (w.heap.size < (w.alloc (.cells #[.int .i64 at0, .int .i64 keep, .int .i64 torn] 23 (0, 0))).heap.size) := ⟨lt_of_some BX.out⟩
  have HC : Aside0 (Kd.C k40 (w.alloc (.cells #[.int .i64 at0, .int .i64 keep, .int .i64 torn] 23 (0, 0))) A l.length l) := ⟨Kd.C_below hC (below_alloc (Below.refl _ _) _)⟩
  have HL := Aside0.mk hl
  clear hC hl hlc K1
  go_enter Try.func5, Try.ntmps5
  go_wp2_with (fail)
  generalize w.alloc (.cells #[.int .i64 at0, .int .i64 keep, .int .i64 torn] 23 (0, 0)) = w0 at BX B0 LT0 HC ⊢
  have P := changed_calls A c l HC.out HL.out 40 (by decide)
  rw [show ((40 : Nat) : Int) = 40 from rfl] at P
  refine P.mono ?_
  clear P
  rintro e w1 ⟨d, st, rfl, hI, hG, hr, hb⟩
  have I1 := Aside0.mk hI
  have B1 := Aside0.mk hb
  have G1 := Aside0.mk hG
  have R1 := Aside0.mk hr
  clear hI hb hG hr
  go_wp2_with (fail)
  refine (awake_calls w1).mono ?_
  rintro e w2 ⟨rfl, hb⟩
  have I2 := Aside0.mk (I1.out.below hb)
  have B2 : Aside0 (Below w0.heap.size w0 w2) := ⟨B1.out.trans (hb.mono B1.out.size)⟩
  clear hb I1 B1
  go_wp2_with (fail)
  refine (sync_calls I2.out (fun k hk => Nat.le_trans B2.out.size hk)).mono ?_
  rintro e w3 ⟨rfl, hI, hb⟩
  rw [G1.out.sync.2]
  have G3 := Aside0.mk G1.out.sync.1
  have R3 : Aside0 ((syncK st).room = -1 ∧ (syncK st).wait = [] ∧ (syncK st).sure = (syncK st).now) := ⟨by rw [(syncK_up G1.out.up).1]; exact ⟨R1.out, rfl, rfl⟩⟩
  have I3 := Aside0.mk hI
  have B3 : Aside0 (Below w0.heap.size w0 w3) := ⟨B2.out.trans (hb.below B2.out.size)⟩
  clear hI hb I2 B2 G1 R1
  generalize syncK st = s3 at G3 R3 I3
  go_wp2_with (fail)
  refine (files_calls I3.out (G3.out.fine (by decide))).mono ?_
  rintro e w4 ⟨v4, rfl, hR, hb⟩
  obtain ⟨A4, c4, rfl, hl4, hC4⟩ := Kd.R_reads hR
  have R4 := Aside0.mk hR
  have I4 := Aside0.mk ((I3.out.bound.below hb).mono (ok' := fun k => (w0.heap.size ≤ k ∧ k < w3.heap.size) ∨ w4.heap.size ≤ k) (fun k hk => Or.inl hk))
  have B4 : Aside0 (Below w0.heap.size w0 w4) := ⟨B3.out.trans (hb.mono B3.out.size)⟩
  have L4 : Aside0 ((filesL s3.now).length = s3.now.length) := ⟨by simp only [filesL, List.length_map]⟩
  have K4 : Aside0 (Kp (fun k => (w0.heap.size ≤ k ∧ k < w3.heap.size) ∨ w4.heap.size ≤ k) w4 w4) := ⟨Kp.refl _ _⟩
  have RW : Aside0 (∀ W', Kp (fun k => (w0.heap.size ≤ k ∧ k < w3.heap.size) ∨ w4.heap.size ≤ k) w4 W' → Kd.C k48 W' A4 (filesL s3.now).length (filesL s3.now)) := ⟨fun W' hb => (Kd.R_reads' (Kd.R_step R4.out (fun k hk hlt => hb.block k hlt (fun e => e.elim (fun h => absurd h.2 (Nat.not_lt.2 hk)) (fun h => absurd hlt (Nat.not_lt.2 h)))))).2.2⟩
  have BW : Aside0 (∀ W', Kp (fun k => (w0.heap.size ≤ k ∧ k < w3.heap.size) ∨ w4.heap.size ≤ k) w4 W' → Below w0.heap.size w0 W') := ⟨fun W' hb => B4.out.trans ((hb.mono (ok' := fun k => w0.heap.size ≤ k) (fun k _ hk => hk.elim (fun h => h.1) (fun h => Nat.le_trans B4.out.size h))).below B4.out.size)⟩
  clear hR hb hC4 hl4 I3 B3 R4
  generalize hok : (fun k => (w0.heap.size ≤ k ∧ k < w3.heap.size) ∨ w4.heap.size ≤ k) = okk at I4 K4 RW BW
  have HOK : Aside0 (∀ k, w4.heap.size ≤ k → okk k) := ⟨fun k hk => by rw [← hok]; exact Or.inr hk⟩
  clear hok
  obtain ⟨a1, a2, a3⟩ := over_append G3.out (by decide) R3.out.1 nX (by decide)
  have HA1 := Aside0.mk a1
  have HA2 := Aside0.mk a2
  have HA3 := Aside0.mk a3
  obtain ⟨b1, b2, b3⟩ := over_append HA2.out (by decide) R3.out.1 nY (by decide)
  have HB1 := Aside0.mk b1
  have HB2 := Aside0.mk b2
  have HB3 := Aside0.mk b3
  clear a1 a2 a3 b1 b2 b3
  go_wp2_with (fail)
  refine (append_calls I4.out HOK.out nO nX (by decide) ⟨G3.out.small (by decide), by decide⟩ (fun _ _ => HA3.out)).mono ?_
  rintro e w5 ⟨rfl, hI, hb⟩
  rw [HA1.out] at hI ⊢
  have I5 := Aside0.mk hI
  have K5 := Aside0.mk (K4.out.trans hb)
  clear hI hb I4 K4
  go_wp2_with (fail)
  refine (append_calls I5.out (fun k hk => HOK.out k (Nat.le_trans K5.out.size hk)) nO nY (by decide) ⟨HA2.out.small (by decide), by decide⟩ (fun _ _ => HB3.out)).mono ?_
  rintro e w6 ⟨rfl, hI, hb⟩
  rw [HB1.out] at hI ⊢
  have I6 := Aside0.mk hI
  have K6 := Aside0.mk (K5.out.trans hb)
  clear hI hb I5 K5
  have e1 : w6.cell? ⟨w.heap.size, 1, none⟩ = some (.int .i64 keep) := (blk_cell (((BW.out _ K6.out).block _ LT0.out).trans BX.out) 1).trans rfl
  have e2 : w6.cell? ⟨w.heap.size, 2, none⟩ = some (.int .i64 torn) := (blk_cell (((BW.out _ K6.out).block _ LT0.out).trans BX.out) 2).trans rfl
  go_wp2_with (fail)
  clear e1 e2
  refine (fail_calls I6.out (fun k hk => HOK.out k (Nat.le_trans K6.out.size hk)) HB2.out.val keep torn).mono ?_
  rintro e w7 ⟨rfl, hI, hb⟩
  rw [failK_up HB2.out.up] at hI
  have I7 := Aside0.mk hI
  have K7 := Aside0.mk (K6.out.trans hb)
  clear hI hb I6 K6
  go_wp2_with (fail)
  refine (up_calls I7.out).mono ?_
  rintro e w8 ⟨rfl, hI, hb⟩
  have I8 := Aside0.mk hI
  have K8 := Aside0.mk (K7.out.trans hb)
  clear hI hb I7 K7
  have OV := Aside0.mk (Over.props (Over.fail (L := s3.now) (O := nO) (st := addK (addK s3 ⟨0, nO, ⟨#[]⟩, nX, 0⟩) ⟨0, nO, ⟨#[]⟩, nY, 0⟩) R3.out.2.2 (fun c hc => by
    have e : (addK (addK s3 ⟨0, nO, ⟨#[]⟩, nX, 0⟩) ⟨0, nO, ⟨#[]⟩, nY, 0⟩).wait = [⟨0, nO, ⟨#[]⟩, nX, 0⟩, ⟨0, nO, ⟨#[]⟩, nY, 0⟩] := by
      show s3.wait ++ _ ++ _ = _
      rw [R3.out.2.1]
      rfl
    rw [e] at hc
    rcases List.mem_cons.1 hc with rfl | hc
    · exact ⟨rfl, rfl⟩
    · rw [List.mem_singleton.1 hc]; exact ⟨rfl, rfl⟩) keep torn) G3.out.ris G3.out.named nO_name)
  obtain ⟨s8, hs8⟩ : ∃ s8 : DK, s8 = { sure := failF (addK (addK s3 ⟨0, nO, ⟨#[]⟩, nX, 0⟩) ⟨0, nO, ⟨#[]⟩, nY, 0⟩) keep torn, now := failF (addK (addK s3 ⟨0, nO, ⟨#[]⟩, nX, 0⟩) ⟨0, nO, ⟨#[]⟩, nY, 0⟩) keep torn, wait := [], count := (addK (addK s3 ⟨0, nO, ⟨#[]⟩, nX, 0⟩) ⟨0, nO, ⟨#[]⟩, nY, 0⟩).count, down := false, falls := (addK (addK s3 ⟨0, nO, ⟨#[]⟩, nX, 0⟩) ⟨0, nO, ⟨#[]⟩, nY, 0⟩).falls, room := (addK (addK s3 ⟨0, nO, ⟨#[]⟩, nX, 0⟩) ⟨0, nO, ⟨#[]⟩, nY, 0⟩).room } := ⟨_, rfl⟩
  have I9 : Aside0 (IsD w8 d okk s8) := ⟨by rw [hs8]; exact I8.out⟩
  have OV9 : Aside0 (OverP s3.now nO s8.now) := ⟨by rw [hs8]; exact OV.out⟩
  have F9 : Aside0 (Fine s8) := ⟨⟨by rw [hs8], OV9.out.ris, OV9.out.named, by have := OV9.out.len; have := G3.out.len; omega⟩⟩
  have N9 := Aside0.mk G3.out.len
  clear hs8 I8 OV HA1 HA2 HA3 HB1 HB2 HB3 R3 G3
  rw [L4.out]
  obtain ⟨n, hn⟩ : ∃ n, n = s3.now.length := ⟨_, rfl⟩
  have HNN := Aside0.mk hn
  rw [← hn]
  clear hn
  go_wp2_with (fail)
  go_loopg [7, 8, 9] (n + 1) (fun kq v7 v8 v9 w' => ∃ (j : Nat), v7 = .int .i64 (j : Int) ∧ Aside0 (j + kq = n + 1 ∧ j ≤ n) ∧ Aside0 (IsD w' d okk s8) ∧ Aside0 (Kp okk w4 w'))
  case atStart => exact ⟨0, rfl, ⟨by omega, by omega⟩, I9, K8⟩
  case round =>
    obtain ⟨j, rfl, HJ, HI, HK⟩ := hrel
    cases gk with
    | zero => have := HJ.out; omega
    | succ k1 =>
      by_cases hj : j < n
      · have hlt : ((j : Int) < (n : Int)) = True := eq_true (by omega)
        have hj2 : j < s3.now.length := by have := HNN.out; omega
        obtain ⟨p, hp⟩ : ∃ p, s3.now[j]? = some p := ⟨_, List.getElem?_eq_getElem hj2⟩
        have hmem : p ∈ s3.now := List.mem_of_getElem? hp
        obtain ⟨q, hq, hq1, hq2⟩ := OV9.out.has p hmem
        have hrd : rd_T48 (filesL s3.now) (j : Int) = ⟨p.1, p.2⟩ := by
          unfold rd_T48 filesL
          rw [Int.toNat_natCast, List.getD_eq_getElem?_getD, List.getElem?_map, hp]
          rfl
        have HRE := Aside0.mk (F9.out.read hq)
        rw [hq1] at HRE
        have HSZ := Aside0.mk (nameS_size (F9.out.named q hq))
        rw [hq1] at HSZ
        have HQ2 := Aside0.mk hq2
        obtain ⟨ad, e, h0, h1⟩ := at_T48 (RW.out _ HK.out) (j : Int) (by omega) (by have := L4.out; have := HNN.out; omega)
        rw [Int.toNat_natCast, hrd] at h0 h1
        subst e
        clear hp hmem hj2 hq hq1 hq2
        go_wp2_with (fail)
        refine (read_calls HI.out p.1 (Nat.le_trans HSZ.out (by decide))).mono ?_
        rintro e w9 ⟨rfl, hb⟩
        have I10 := Aside0.mk (HI.out.below hb)
        have K10 : Aside0 (Kp okk w4 w9) := ⟨HK.out.trans (Kp.of_below hb)⟩
        obtain ⟨ad', e, h0', h1'⟩ := at_T48 (RW.out _ K10.out) (j : Int) (by omega) (by have := L4.out; have := HNN.out; omega)
        rw [Int.toNat_natCast, hrd] at h0' h1'
        injection e with e
        subst e
        rw [HRE.out.1, HRE.out.2]
        clear h0 h1 hb hrd
        by_cases ho : p.1 = nO
        · rw [ho] at h0'
          clear ho
          go_wp2
          go_roundg k1
          case measure => have := HJ.out; omega
          case rel => exact ⟨j + 1, by first | rfl | (rw [IntWalk.wrap64_in _ (by have := HNN.out; have := N9.out; omega)]; rfl), ⟨by have := HJ.out; omega, by omega⟩, I10, K10⟩
        · have g1 : (p.1.toList = [111, 116, 104, 101, 114, 45, 102, 105, 108, 101]) = False := eq_false (fun e => ho (ba_inj (by rw [← ByteArray.toList_eq, e])))
          have gq := HQ2.out ho
          rw [gq]
          clear gq ho
          have gs : (p.2.toList == p.2.toList) = true := beq_self_eq_true _
          go_wp2
          go_roundg k1
          case measure => have := HJ.out; omega
          case rel => exact ⟨j + 1, by first | rfl | (rw [IntWalk.wrap64_in _ (by have := HNN.out; have := N9.out; omega)]; rfl), ⟨by have := HJ.out; omega, by omega⟩, I10, K10⟩
      · obtain rfl : j = n := by have := HJ.out; omega
        have hlt : ((j : Int) < (j : Int)) = False := eq_false (by omega)
        go_wp2_with (fail)
        refine (names_calls HI.out F9.out.up F9.out.ris (by have := F9.out.len; omega)).mono ?_
        rintro e w9 ⟨v9, rfl, hR, hb⟩
        obtain ⟨A9, c9, rfl, _, _⟩ := Kd.R_reads hR
        have K10 : Aside0 (Kp okk w4 w9) := ⟨HK.out.trans (Kp.of_below hb)⟩
        have hln : (namesF s8.now).length = s8.now.length := List.length_map ..
        rw [hln]
        have hov := OV9.out.len
        rw [← HNN.out] at hov
        clear hR hb hln
        rcases hov with e | e
        · rw [e]
          have z : ((j : Int) - (j : Int)) = 0 := by omega
          go_wp2
          go_ret
          exact ⟨by first | rfl | simp, B0.out.trans ((BW.out _ K10.out).mono B0.out.size)⟩
        · rw [e]
          have z : ((j : Int) + 1 - (j : Int)) = 1 := by omega
          go_wp2
          go_ret
          exact ⟨by first | rfl | simp, B0.out.trans ((BW.out _ K10.out).mono B0.out.size)⟩
theorem w_DiskSynced (W : World) (A0 : Option Addr) (c0 : Nat) (a0 : (List S40)) (l0 : a0.length ≤ c0) (C0 : Kd.C k40 W A0 a0.length a0) (g0 : (a0.length * 112 ≤ 140737488351232 ∧ ∀ y0 ∈ a0, ((Lit.int .i64 y0.f0).wf = true ∧ (y0.f1.size ≤ 140737488351232 ∧ (y0.f2.size ≤ 140737488351232 ∧ (y0.f3.size ≤ 140737488351232 ∧ ((Lit.int .i64 y0.f4).wf = true ∧ (((Lit.int .i64 y0.f5.f0).wf = true ∧ ((Lit.int .i64 y0.f5.f1).wf = true ∧ (Lit.int .i64 y0.f5.f2).wf = true)) ∧ (y0.f6.length * 24 ≤ 140737488351232 ∧ ∀ y1 ∈ y0.f6, ((Lit.int .i64 y1.f0).wf = true ∧ ((Lit.int .i64 y1.f1).wf = true ∧ (Lit.int .i64 y1.f2).wf = true))))))))))) (cs1 : Array Value) (a1 : S23) (K1 : k23.K W a1 cs1.toList) (g1 : ((Lit.int .i64 a1.f0).wf = true ∧ ((Lit.int .i64 a1.f1).wf = true ∧ (Lit.int .i64 a1.f2).wf = true))) : Calls Try.prog 5 #[.slice A0 a0.length c0, .agg cs1] W fun e w' => e = .returned (.bool true) ∧ Below W.heap.size W w' :=
  walkDiskSynced W A0 c0 a0 l0 C0 (fun a h => ⟨(g0.2 a h).2.1, (g0.2 a h).2.2.1, (g0.2 a h).2.2.2.1⟩) cs1 a1 K1
end Go.Proofs.Ytabngibognlmoaa.Q
