/- DiskMoves' walk. -/
import Derived.Test.YtabngibognlmoaaDk3
import Derived.Test.YtabngibognlmoaaKindsDiskMoves
namespace Go.Proofs.Ytabngibognlmoaa.Q
open Go.Maps Go.WideShapes Go.WideMaps Go.RowKit Go.Proofs.YtabngibognlmoaaW.PrintWords Go.Proofs.YtabngibognlmoaaW.PrintLast Go.Proofs.YtabngibognlmoaaW.PrintMore
set_option linter.unusedVariables false
set_option linter.unusedSimpArgs false
set_option maxHeartbeats 10000000
set_option maxRecDepth 100000
/-! DiskMoves: the states -/
abbrev nB : ByteArray := ⟨#[98]⟩
section
variable (old fresh : ByteArray) (f : Fal)
def m1 : DK := ⟨[], [(nA, old)], [⟨1, nA, ⟨#[]⟩, old, 0⟩], 1, false, [], -1⟩
def m2 : DK := ⟨[(nA, old)], [(nA, old)], [], 1, false, [], -1⟩
def m3 : DK := ⟨[(nA, old)], [(nA, old)], [], 1, false, [f], -1⟩
def m4 : DK := ⟨[(nA, old)], [(nA, old), (nB, fresh)], [⟨1, nB, ⟨#[]⟩, fresh, 0⟩], 2, false, [f], -1⟩
def m5 : DK := ⟨[(nA, old), (nB, fresh)], [(nA, old), (nB, fresh)], [], 2, false, [f], -1⟩
def m6 : DK := ⟨[(nA, old), (nB, fresh)], [(nA, fresh)], [⟨2, nB, nA, ⟨#[]⟩, 0⟩], 3, false, [f], -1⟩
def m7 : DK := ⟨[(nA, fresh)], [(nA, fresh)], [], 3, false, [f], -1⟩
theorem m_w1 : writeK newK nA old = (m1 old, 0) := by kernel_rfl
theorem m_s1 : syncK (m1 old) = m2 old ∧ syncE (m1 old) = 0 := ⟨rfl, rfl⟩
theorem hit_one {st : DK} (h : st.falls = [f]) : hitI st = if f.at_ = st.count then some 0 else none := by
  unfold hitI
  rw [h]
  by_cases h1 : f.at_ = st.count
  · rw [if_pos h1]
    show (if (f.at_ == st.count) = true then _ else _) = _
    rw [if_pos (beq_iff_eq.2 h1)]
  · rw [if_neg h1]
    simp [h1]
theorem changeK_none {st : DK} {c : Chg} (h : hitI st = none) : changeK st c = (addK st c, 0) := by unfold changeK; rw [h]
theorem changeK_some {st : DK} {c : Chg} {i : Nat} (h : hitI st = some i) : changeK st c = (failK { st with wait := st.wait ++ [c], falls := st.falls.eraseIdx i } (st.falls.getD i zF).keep (st.falls.getD i zF).torn, 21) := by unfold changeK; rw [h]
theorem m_w2 (h : f.at_ ≠ 1) : writeK (m3 old f) nB fresh = (m4 old fresh f, 0) := by
  have h1 : writeK (m3 old f) nB fresh = changeK (m3 old f) ⟨1, nB, ⟨#[]⟩, fresh, 0⟩ := by kernel_rfl
  exact (h1.trans (changeK_none ((hit_one f (st := m3 old f) rfl).trans (if_neg (show ¬ f.at_ = (m3 old f).count from h))))).trans (by kernel_rfl)
theorem m_w2f (h : f.at_ = 1) : writeK (m3 old f) nB fresh = (failK ⟨[(nA, old)], [(nA, old)], [⟨1, nB, ⟨#[]⟩, fresh, 0⟩], 1, false, [], -1⟩ f.keep f.torn, 21) := by
  have h1 : writeK (m3 old f) nB fresh = changeK (m3 old f) ⟨1, nB, ⟨#[]⟩, fresh, 0⟩ := by kernel_rfl
  exact (h1.trans (changeK_some ((hit_one f (st := m3 old f) rfl).trans (if_pos (show f.at_ = (m3 old f).count from h))))).trans (by kernel_rfl)
theorem m_s2 : syncK (m4 old fresh f) = m5 old fresh f ∧ syncE (m4 old fresh f) = 0 := ⟨rfl, rfl⟩
theorem m_mv (h : f.at_ ≠ 2) : moveK (m5 old fresh f) nB nA = (m6 old fresh f, 0) := by
  have h1 : moveK (m5 old fresh f) nB nA = changeK (m5 old fresh f) ⟨2, nB, nA, ⟨#[]⟩, 0⟩ := by kernel_rfl
  exact (h1.trans (changeK_none ((hit_one f (st := m5 old fresh f) rfl).trans (if_neg (show ¬ f.at_ = (m5 old fresh f).count from h))))).trans (by kernel_rfl)
theorem m_mvf (h : f.at_ = 2) : moveK (m5 old fresh f) nB nA = (failK ⟨[(nA, old), (nB, fresh)], [(nA, old), (nB, fresh)], [⟨2, nB, nA, ⟨#[]⟩, 0⟩], 2, false, [], -1⟩ f.keep f.torn, 21) := by
  have h1 : moveK (m5 old fresh f) nB nA = changeK (m5 old fresh f) ⟨2, nB, nA, ⟨#[]⟩, 0⟩ := by kernel_rfl
  exact (h1.trans (changeK_some ((hit_one f (st := m5 old fresh f) rfl).trans (if_pos (show f.at_ = (m5 old fresh f).count from h))))).trans (by kernel_rfl)
theorem m_s3 : syncK (m6 old fresh f) = m7 fresh f ∧ syncE (m6 old fresh f) = 0 := ⟨rfl, rfl⟩
/-- a disk that is up and holds x under the first name -/
structure Holds (st : DK) (x : ByteArray) : Prop where
  has : hasF st.now nA = true
  get : getF st.now nA = x
theorem Holds.read {st : DK} {x : ByteArray} (h : Holds st x) : readS { st with down := false } nA = x ∧ readE { st with down := false } nA = 0 := by
  have h0 : askE false [nA] = 0 := by kernel_rfl
  have h1 : readE { st with down := false } nA = 0 := by
    unfold readE
    rw [if_pos h0, if_pos h.has]
  refine ⟨?_, h1⟩
  unfold readS
  rw [if_pos h1]
  exact h.get
theorem clamp_one (keep : Int) : clampK keep 1 = 0 ∨ clampK keep 1 = 1 := by unfold clampK; omega
theorem m_f1 (keep torn : Int) : Holds (failK ⟨[(nA, old)], [(nA, old)], [⟨1, nB, ⟨#[]⟩, fresh, 0⟩], 1, false, [], -1⟩ keep torn) old ∧ (failK ⟨[(nA, old)], [(nA, old)], [⟨1, nB, ⟨#[]⟩, fresh, 0⟩], 1, false, [], -1⟩ keep torn).down = true := by
  refine ⟨?_, rfl⟩
  have e : failF ⟨[(nA, old)], [(nA, old)], [⟨1, nB, ⟨#[]⟩, fresh, 0⟩], 1, false, [], -1⟩ keep torn = [(nA, old)] ∨ ∃ x, failF ⟨[(nA, old)], [(nA, old)], [⟨1, nB, ⟨#[]⟩, fresh, 0⟩], 1, false, [], -1⟩ keep torn = [(nA, old), (nB, x)] := by
    rcases clamp_one keep with h | h
    · by_cases ht : 0 < torn
      · refine Or.inr ⟨fresh.extract 0 (min torn (fresh.size : Int)).toNat, (failF_torn (c := ⟨1, nB, ⟨#[]⟩, fresh, 0⟩) h.symm rfl ht (Or.inr rfl)).trans ?_⟩
        kernel_rfl
      · exact Or.inl ((failF_none h.symm (Or.inr ht)).trans rfl)
    · refine Or.inr ⟨fresh, (failF_none h.symm (Or.inl (Nat.le_refl _))).trans ?_⟩
      kernel_rfl
  rcases e with e | ⟨x, e⟩
  · exact ⟨by show hasF (failF _ _ _) nA = true; rw [e]; kernel_rfl, by show getF (failF _ _ _) nA = old; rw [e]; kernel_rfl⟩
  · exact ⟨by show hasF (failF _ _ _) nA = true; rw [e]; kernel_rfl, by show getF (failF _ _ _) nA = old; rw [e]; kernel_rfl⟩
theorem m_f2 (keep torn : Int) : ∃ x, Holds (failK ⟨[(nA, old), (nB, fresh)], [(nA, old), (nB, fresh)], [⟨2, nB, nA, ⟨#[]⟩, 0⟩], 2, false, [], -1⟩ keep torn) x ∧ (x = old ∨ x = fresh) ∧ (failK ⟨[(nA, old), (nB, fresh)], [(nA, old), (nB, fresh)], [⟨2, nB, nA, ⟨#[]⟩, 0⟩], 2, false, [], -1⟩ keep torn).down = true := by
  rcases clamp_one keep with h | h
  · have e : failF ⟨[(nA, old), (nB, fresh)], [(nA, old), (nB, fresh)], [⟨2, nB, nA, ⟨#[]⟩, 0⟩], 2, false, [], -1⟩ keep torn = [(nA, old), (nB, fresh)] := (failF_other (c := ⟨2, nB, nA, ⟨#[]⟩, 0⟩) h.symm rfl (fun e => e.2.elim (by decide) (by decide))).trans rfl
    exact ⟨old, ⟨by show hasF (failF _ _ _) nA = true; rw [e]; kernel_rfl, by show getF (failF _ _ _) nA = old; rw [e]; kernel_rfl⟩, Or.inl rfl, rfl⟩
  · have e : failF ⟨[(nA, old), (nB, fresh)], [(nA, old), (nB, fresh)], [⟨2, nB, nA, ⟨#[]⟩, 0⟩], 2, false, [], -1⟩ keep torn = [(nA, fresh)] := (failF_none h.symm (Or.inl (Nat.le_refl _))).trans (by kernel_rfl)
    exact ⟨fresh, ⟨by show hasF (failF _ _ _) nA = true; rw [e]; kernel_rfl, by show getF (failF _ _ _) nA = fresh; rw [e]; kernel_rfl⟩, Or.inr rfl, rfl⟩
theorem m_f3 (keep torn : Int) : Holds (failK (m7 fresh f) keep torn) fresh := by
  have e : failF (m7 fresh f) keep torn = [(nA, fresh)] := by
    have h : clampK keep 0 = 0 := by unfold clampK; omega
    exact (failF_none (n := 0) h.symm (Or.inl (Nat.le_refl _))).trans rfl
  have e2 : failK (m7 fresh f) keep torn = { m7 fresh f with sure := failF (m7 fresh f) keep torn, now := failF (m7 fresh f) keep torn, wait := [], down := true } := if_neg (show ¬ false = true by decide)
  rw [e2]
  exact ⟨by show hasF (failF (m7 fresh f) keep torn) nA = true; rw [e]; kernel_rfl, by show getF (failF (m7 fresh f) keep torn) nA = fresh; rw [e]; kernel_rfl⟩
end
/-! DiskMoves -/
theorem okc {l : Fs} {k : Int} {a b s : ByteArray} {n : Int} (h : 0 ≤ k ∧ k ≤ 3) (h1 : a.size ≤ 100) (h2 : b.size ≤ 100) (h3 : l.length ≤ 100) (h4 : totF l + s.size ≤ 9223372036854775807) : OkC l ⟨k, a, b, s, n⟩ :=
  ⟨⟨h.1, Int.le_trans h.2 (by decide)⟩, Nat.le_trans h1 (by decide), Nat.le_trans h2 (by decide), Nat.lt_of_le_of_lt h3 (by decide), h4, fun e => absurd h.2 (by rw [show k = 4 from e]; decide)⟩
theorem fall1 {w : World} {g : Nat} (f : Fal) (hg : w.heap[g]? = some (.cells #[.int .i64 f.at_, .int .i64 f.keep, .int .i64 f.torn] 23 (0, 0))) : Kd.C kF w (some ⟨g, 0, none⟩) 1 [f] := by
  refine ⟨rfl, by decide, fun _ => ⟨⟨g, 0, none⟩, rfl, fun j p hj => ?_⟩⟩
  cases j with
  | zero =>
    have e : f = p := by simpa using hj
    subst e
    refine ⟨csF f, rfl, kF.K_of_M (kF_mkM w 0 (fun _ => True) f), fun i u hu => ?_⟩
    rw [Addr.add_lit, blk_cell hg]
    show (csF f).toArray[0 + (0 * 3 + i)]? = _
    rw [List.getElem?_toArray, show 0 + (0 * 3 + i) = i by omega]
    exact hu
  | succ j => simp at hj
theorem failK_down {st : DK} {a b : Int} (h : st.down = true) : failK st a b = st := if_pos h
theorem failK_wait {st : DK} {a b : Int} (h : st.down = false) : (failK st a b).wait = [] := by
  rw [failK, if_neg (by rw [h]; simp)]
theorem tm4 (x : Int) : x.tmod 4 = 0 ∨ x.tmod 4 = 1 ∨ x.tmod 4 = 2 ∨ x.tmod 4 = 3 ∨ x.tmod 4 = -1 ∨ x.tmod 4 = -2 ∨ x.tmod 4 = -3 := by
  have h1 := Int.tmod_lt_of_pos x (show (0 : Int) < 4 by decide)
  have h2 := Int.lt_tmod_of_pos x (show (0 : Int) < 4 by decide)
  omega
theorem tot_one (a s : ByteArray) : totF [(a, s)] = s.size := by simp [totF]
theorem tot_two (a s b t : ByteArray) : totF [(a, s), (b, t)] = s.size + t.size := by simp [totF]
theorem walkDiskMoves (w : World) (old : ByteArray) (ho : old.size ≤ 140737488351232) (fresh : ByteArray) (hf : fresh.size ≤ 140737488351232) (cs2 : Array Value) (a2 : K.S23) (K2 : K.k23.K w a2 cs2.toList) (g2 : ((Lit.int .i64 a2.f0).wf = true ∧ ((Lit.int .i64 a2.f1).wf = true ∧ (Lit.int .i64 a2.f2).wf = true))) : Calls Try.prog 3 #[.string old, .string fresh, .agg cs2] w fun e w' => e = .returned (.bool true) ∧ Below w.heap.size w w' := by
  obtain rfl : cs2 = #[.int .i64 a2.f0, .int .i64 a2.f1, .int .i64 a2.f2] := by
    have := K.k23_open K2
    cases cs2; simp_all
  have huf := Try.underlying23
  obtain ⟨at0, keep, torn⟩ := a2
  simp only at g2 ⊢
  have HO := Aside0.mk ho
  have HF := Aside0.mk hf
  have BX := Aside0.mk (heap_alloc_new w (.cells #[.int .i64 at0, .int .i64 keep, .int .i64 torn] 23 (0, 0)))
  have B0 : Aside0 (Below w.heap.size w (w.alloc (.cells #[.int .i64 at0, .int .i64 keep, .int .i64 torn] 23 (0, 0)))) := ⟨below_alloc (Below.refl _ _) _⟩
  have LT0 : Aside0 (w.heap.size < (w.alloc (.cells #[.int .i64 at0, .int .i64 keep, .int .i64 torn] 23 (0, 0))).heap.size) := ⟨lt_of_some BX.out⟩
  have C1 : Aside0 (CanC newK ⟨1, nA, ⟨#[]⟩, old, 0⟩) := ⟨by
    have h : OkC [] (⟨1, nA, ⟨#[]⟩, old, 0⟩ : Chg) := okc (by decide) (by decide) (by decide) (by decide) (by show 0 + old.size ≤ _; omega)
    exact ⟨h, by decide, by decide, by decide, h, trivial⟩⟩
  have C2 : Aside0 (∀ f, CanC (m3 old f) ⟨1, nB, ⟨#[]⟩, fresh, 0⟩) := ⟨fun f => by
    have h : OkC [(nA, old)] (⟨1, nB, ⟨#[]⟩, fresh, 0⟩ : Chg) := okc (by decide) (by decide) (by decide) (show 1 ≤ 100 by decide) (by rw [tot_one]; omega)
    exact ⟨h, show (0 + 1) * 64 ≤ 140737488355328 by decide, show (0 : Int) ≤ 1 ∧ (1 : Int) < 9000000000000000000 by decide, show 1 * 24 ≤ 140737488355328 by decide, h, trivial⟩⟩
  have C3 : Aside0 (∀ f, CanC (m5 old fresh f) ⟨2, nB, nA, ⟨#[]⟩, 0⟩) := ⟨fun f => by
    have h : OkC [(nA, old), (nB, fresh)] (⟨2, nB, nA, ⟨#[]⟩, 0⟩ : Chg) := okc (by decide) (by decide) (by decide) (show 2 ≤ 100 by decide) (by rw [tot_two]; show old.size + fresh.size + 0 ≤ _; omega)
    exact ⟨h, show (0 + 1) * 64 ≤ 140737488355328 by decide, show (0 : Int) ≤ 2 ∧ (2 : Int) < 9000000000000000000 by decide, show 1 * 24 ≤ 140737488355328 by decide, h, trivial⟩⟩
  have T1 : Aside0 (totF newK.now ≤ 4000000000000000000 ∧ old.size ≤ 4000000000000000000) := ⟨by decide, by omega⟩
  have T2 : Aside0 (∀ f, totF (m3 old f).now ≤ 4000000000000000000 ∧ fresh.size ≤ 4000000000000000000) := ⟨fun f => ⟨by show totF [(nA, old)] ≤ _; rw [tot_one]; omega, by omega⟩⟩
  have hk0 : at0.tmod 4 = 0 ∨ at0.tmod 4 = 1 ∨ at0.tmod 4 = 2 ∨ at0.tmod 4 = 3 ∨ at0.tmod 4 = -1 ∨ at0.tmod 4 = -2 ∨ at0.tmod 4 = -3 := tm4 at0
  have HK0 := Aside0.mk hk0
  clear ho hf hk0 K2
  go_enter Try.func3, Try.ntmps3
  go_wp2_with (fail)
  generalize w.alloc (.cells #[.int .i64 at0, .int .i64 keep, .int .i64 torn] 23 (0, 0)) = w0 at BX B0 LT0 ⊢
  refine (new_calls w0).mono ?_
  rintro e w1 ⟨d, rfl, hI, hb⟩
  have B1 := Aside0.mk hb
  have I1 := Aside0.mk hI
  clear hb hI
  go_wp2_with (fail)
  refine (awake_calls _).mono ?_
  rintro e w2 ⟨rfl, hb⟩
  have B2 : Aside0 (Below w0.heap.size w0 w2) := ⟨B1.out.trans (hb.mono B1.out.size)⟩
  have I2 := Aside0.mk (I1.out.below hb)
  clear hb I1 B1
  go_wp2_with (fail)
  refine (write_calls I2.out (fun k hk => Nat.le_trans B2.out.size hk) nA old (by decide) T1.out (fun _ _ => C1.out)).mono ?_
  rintro e w3 ⟨rfl, hI, hb⟩
  rw [m_w1] at hI ⊢
  have B3 : Aside0 (Below w0.heap.size w0 w3) := ⟨B2.out.trans (hb.below B2.out.size)⟩
  have I3 := Aside0.mk hI
  clear hb hI I2 B2
  go_wp2_with (fail)
  refine (sync_calls I3.out (fun k hk => Nat.le_trans B3.out.size hk)).mono ?_
  rintro e w4 ⟨rfl, hI, hb⟩
  rw [(m_s1 old).2]
  rw [(m_s1 old).1] at hI
  have B4 : Aside0 (Below w0.heap.size w0 w4) := ⟨B3.out.trans (hb.below B3.out.size)⟩
  have I4 := Aside0.mk hI
  clear hb hI I3 B3
  go_wp2_with (fail)
  refine (changes_calls I4.out).mono ?_
  rintro e w5 ⟨rfl, hw⟩
  rw [hw]
  clear hw
  rw [show (m2 old).count = 1 from rfl]
  have e0 : w4.cell? ⟨w.heap.size, 0, none⟩ = some (.int .i64 at0) := (blk_cell ((B4.out.block _ LT0.out).trans BX.out) 0).trans rfl
  have e1 : w4.cell? ⟨w.heap.size, 1, none⟩ = some (.int .i64 keep) := (blk_cell ((B4.out.block _ LT0.out).trans BX.out) 1).trans rfl
  have e2 : w4.cell? ⟨w.heap.size, 2, none⟩ = some (.int .i64 torn) := (blk_cell ((B4.out.block _ LT0.out).trans BX.out) 2).trans rfl
  go_wp2_with (fail)
  clear e0
  obtain ⟨v, hv⟩ : ∃ v, v = wrap64 (1 + (wrap64 (at0.tmod 4 + 4)).tmod 4) := ⟨_, rfl⟩
  have hv4 : v = 1 ∨ v = 2 ∨ v = 3 ∨ v = 4 := by
    rw [hv]
    rcases HK0.out with h | h | h | h | h | h | h <;> rw [h] <;> decide +kernel
  rw [← hv]
  clear hv HK0
  have hg := heap_alloc_new (w4.alloc (.cells #[.int .i64 v, .int .i64 keep, .int .i64 torn] 23 (0, 0))) (.cells #[.int .i64 v, .int .i64 keep, .int .i64 torn] 23 (0, 0))
  have Bq : Aside0 (Below w0.heap.size w0 ((w4.alloc (.cells #[.int .i64 v, .int .i64 keep, .int .i64 torn] 23 (0, 0))).alloc (.cells #[.int .i64 v, .int .i64 keep, .int .i64 torn] 23 (0, 0)))) := ⟨below_alloc (below_alloc B4.out _) _⟩
  have Iq := Aside0.mk (I4.out.step (W' := (w4.alloc (.cells #[.int .i64 v, .int .i64 keep, .int .i64 torn] 23 (0, 0))).alloc (.cells #[.int .i64 v, .int .i64 keep, .int .i64 torn] 23 (0, 0))) (fun k _ hk => (below_alloc (below_alloc (Below.refl _ _) _) _).block k hk))
  rw [show (w4.alloc (.cells #[.int .i64 v, .int .i64 keep, .int .i64 torn] 23 (0, 0))).heap.size = w4.heap.size + 1 from Array.size_push _] at hg
  have E1 := Aside0.mk e1
  have E2 := Aside0.mk e2
  clear e1 e2
  generalize (w4.alloc (.cells #[.int .i64 v, .int .i64 keep, .int .i64 torn] 23 (0, 0))).alloc (.cells #[.int .i64 v, .int .i64 keep, .int .i64 torn] 23 (0, 0)) = w5 at hg Bq Iq ⊢
  have HG := Aside0.mk hg
  clear hg
  refine (plan_calls Iq.out (fun k hk => Nat.le_trans Bq.out.size hk) _ _ [⟨v, keep, torn⟩] (fall1 ⟨v, keep, torn⟩ HG.out) (show 1 * 24 ≤ 140737488355328 by decide)).mono ?_
  rintro e w6 ⟨rfl, hI, hb⟩
  have B6 : Aside0 (Below w0.heap.size w0 w6) := ⟨Bq.out.trans (hb.below Bq.out.size)⟩
  have I6 : Aside0 (IsD w6 d (fun k => w0.heap.size ≤ k) (m3 old ⟨v, keep, torn⟩)) := ⟨hI⟩
  clear hI hb Bq Iq HG I4 B4 E1 E2
  have X0 := Aside0.mk BX.out
  by_cases h1 : v = 1
  · clear hv4
    subst h1
    go_wp2_with (fail)
    refine (write_calls I6.out (fun k hk => Nat.le_trans B6.out.size hk) nB fresh (by decide) (T2.out _) (fun _ _ => C2.out _)).mono ?_
    rintro e w7 ⟨rfl, hI, hb⟩
    rw [m_w2f old fresh ⟨1, keep, torn⟩ rfl] at hI ⊢
    have B7 : Aside0 (Below w0.heap.size w0 w7) := ⟨B6.out.trans (hb.below B6.out.size)⟩
    have I7 := Aside0.mk hI
    clear hb hI I6 B6
    have e1 : w7.cell? ⟨w.heap.size, 1, none⟩ = some (.int .i64 keep) := (blk_cell ((B7.out.block _ LT0.out).trans BX.out) 1).trans rfl
    have e2 : w7.cell? ⟨w.heap.size, 2, none⟩ = some (.int .i64 torn) := (blk_cell ((B7.out.block _ LT0.out).trans BX.out) 2).trans rfl
    go_wp2_with (fail)
    refine (fail_calls I7.out (fun k hk => Nat.le_trans B7.out.size hk) trivial keep torn).mono ?_
    rintro e w8 ⟨rfl, hI, hb⟩
    rw [failK_down (m_f1 old fresh keep torn).2] at hI
    have B8 : Aside0 (Below w0.heap.size w0 w8) := ⟨B7.out.trans (hb.below B7.out.size)⟩
    have I8 := Aside0.mk hI
    clear hb hI I7 B7
    clear e1 e2
    go_wp2_with (fail)
    refine (up_calls I8.out).mono ?_
    rintro e w9 ⟨rfl, hI, hb⟩
    have B9 : Aside0 (Below w0.heap.size w0 w9) := ⟨B8.out.trans (hb.below B8.out.size)⟩
    have I9 := Aside0.mk hI
    clear hb hI I8 B8
    go_wp2_with (fail)
    refine (read_calls I9.out nA (by decide)).mono ?_
    rintro e w10 ⟨rfl, hb⟩
    rw [(Holds.read (m_f1 old fresh keep torn).1).1, (Holds.read (m_f1 old fresh keep torn).1).2]
    have B10 : Aside0 (Below w0.heap.size w0 w10) := ⟨B9.out.trans (hb.mono B9.out.size)⟩
    clear hb I9 B9
    have g2 : (old.toList == old.toList) = true := beq_self_eq_true _
    cases g1 : (old.toList == fresh.toList) with
    | true =>
      go_wp2
      go_ret
      exact ⟨rfl, B0.out.trans (B10.out.mono B0.out.size)⟩
    | false =>
      go_wp2
      go_ret
      exact ⟨rfl, B0.out.trans (B10.out.mono B0.out.size)⟩
  have HV1 := Aside0.mk h1
  have HV4 := Aside0.mk hv4
  clear h1 hv4
  go_wp2_with (fail)
  refine (write_calls I6.out (fun k hk => Nat.le_trans B6.out.size hk) nB fresh (by decide) (T2.out _) (fun _ _ => C2.out _)).mono ?_
  rintro e w7 ⟨rfl, hI, hb⟩
  rw [m_w2 old fresh ⟨v, keep, torn⟩ HV1.out] at hI ⊢
  have B7 : Aside0 (Below w0.heap.size w0 w7) := ⟨B6.out.trans (hb.below B6.out.size)⟩
  have I7 := Aside0.mk hI
  clear hb hI I6 B6
  go_wp2_with (fail)
  refine (sync_calls I7.out (fun k hk => Nat.le_trans B7.out.size hk)).mono ?_
  rintro e w8 ⟨rfl, hI, hb⟩
  rw [(m_s2 old fresh ⟨v, keep, torn⟩).2]
  rw [(m_s2 old fresh ⟨v, keep, torn⟩).1] at hI
  have B8 : Aside0 (Below w0.heap.size w0 w8) := ⟨B7.out.trans (hb.below B7.out.size)⟩
  have I8 := Aside0.mk hI
  clear hb hI I7 B7
  by_cases h2 : v = 2
  · have HV2 := Aside0.mk h2
    clear h2
    go_wp2_with (fail)
    refine (move_calls I8.out (fun k hk => Nat.le_trans B8.out.size hk) nB nA (by decide) (by decide) (fun _ _ _ _ => C3.out _)).mono ?_
    rintro e w9 ⟨rfl, hI, hb⟩
    rw [m_mvf old fresh ⟨v, keep, torn⟩ HV2.out] at hI ⊢
    have B9 : Aside0 (Below w0.heap.size w0 w9) := ⟨B8.out.trans (hb.below B8.out.size)⟩
    have I9 := Aside0.mk hI
    clear hb hI I8 B8
    obtain ⟨x, HX, hx, hdn⟩ := m_f2 old fresh keep torn
    have HXH := Aside0.mk HX
    have HDN := Aside0.mk hdn
    clear HX hdn
    rcases hx with hx | hx
    · rw [hx] at HXH
      clear hx
      have e1 : w9.cell? ⟨w.heap.size, 1, none⟩ = some (.int .i64 keep) := (blk_cell ((B9.out.block _ LT0.out).trans BX.out) 1).trans rfl
      have e2 : w9.cell? ⟨w.heap.size, 2, none⟩ = some (.int .i64 torn) := (blk_cell ((B9.out.block _ LT0.out).trans BX.out) 2).trans rfl
      go_wp2_with (fail)
      refine (fail_calls I9.out (fun k hk => Nat.le_trans B9.out.size hk) trivial keep torn).mono ?_
      rintro e w10 ⟨rfl, hI, hb⟩
      rw [failK_down HDN.out] at hI
      have B10 : Aside0 (Below w0.heap.size w0 w10) := ⟨B9.out.trans (hb.below B9.out.size)⟩
      have I10 := Aside0.mk hI
      clear hb hI I9 B9
      clear e1 e2
      go_wp2_with (fail)
      refine (up_calls I10.out).mono ?_
      rintro e w11 ⟨rfl, hI, hb⟩
      have B11 : Aside0 (Below w0.heap.size w0 w11) := ⟨B10.out.trans (hb.below B10.out.size)⟩
      have I11 := Aside0.mk hI
      clear hb hI I10 B10
      go_wp2_with (fail)
      refine (read_calls I11.out nA (by decide)).mono ?_
      rintro e w12 ⟨rfl, hb⟩
      rw [(Holds.read HXH.out).1, (Holds.read HXH.out).2]
      have B12 : Aside0 (Below w0.heap.size w0 w12) := ⟨B11.out.trans (hb.mono B11.out.size)⟩
      clear hb I11 B11
      have g2 : (old.toList == old.toList) = true := beq_self_eq_true _
      cases g1 : (old.toList == fresh.toList) with
      | true =>
        go_wp2
        go_ret
        exact ⟨rfl, B0.out.trans (B12.out.mono B0.out.size)⟩
      | false =>
        go_wp2
        go_ret
        exact ⟨rfl, B0.out.trans (B12.out.mono B0.out.size)⟩
    · rw [hx] at HXH
      clear hx
      have e1 : w9.cell? ⟨w.heap.size, 1, none⟩ = some (.int .i64 keep) := (blk_cell ((B9.out.block _ LT0.out).trans BX.out) 1).trans rfl
      have e2 : w9.cell? ⟨w.heap.size, 2, none⟩ = some (.int .i64 torn) := (blk_cell ((B9.out.block _ LT0.out).trans BX.out) 2).trans rfl
      go_wp2_with (fail)
      refine (fail_calls I9.out (fun k hk => Nat.le_trans B9.out.size hk) trivial keep torn).mono ?_
      rintro e w10 ⟨rfl, hI, hb⟩
      rw [failK_down HDN.out] at hI
      have B10 : Aside0 (Below w0.heap.size w0 w10) := ⟨B9.out.trans (hb.below B9.out.size)⟩
      have I10 := Aside0.mk hI
      clear hb hI I9 B9
      clear e1 e2
      go_wp2_with (fail)
      refine (up_calls I10.out).mono ?_
      rintro e w11 ⟨rfl, hI, hb⟩
      have B11 : Aside0 (Below w0.heap.size w0 w11) := ⟨B10.out.trans (hb.below B10.out.size)⟩
      have I11 := Aside0.mk hI
      clear hb hI I10 B10
      go_wp2_with (fail)
      refine (read_calls I11.out nA (by decide)).mono ?_
      rintro e w12 ⟨rfl, hb⟩
      rw [(Holds.read HXH.out).1, (Holds.read HXH.out).2]
      have B12 : Aside0 (Below w0.heap.size w0 w12) := ⟨B11.out.trans (hb.mono B11.out.size)⟩
      clear hb I11 B11
      have g1 : (fresh.toList == fresh.toList) = true := beq_self_eq_true _
      go_wp2
      go_ret
      exact ⟨rfl, B0.out.trans (B12.out.mono B0.out.size)⟩
  have HV2 := Aside0.mk h2
  clear h2
  go_wp2_with (fail)
  refine (move_calls I8.out (fun k hk => Nat.le_trans B8.out.size hk) nB nA (by decide) (by decide) (fun _ _ _ _ => C3.out _)).mono ?_
  rintro e w9 ⟨rfl, hI, hb⟩
  rw [m_mv old fresh ⟨v, keep, torn⟩ HV2.out] at hI ⊢
  have B9 : Aside0 (Below w0.heap.size w0 w9) := ⟨B8.out.trans (hb.below B8.out.size)⟩
  have I9 := Aside0.mk hI
  clear hb hI I8 B8
  go_wp2_with (fail)
  refine (sync_calls I9.out (fun k hk => Nat.le_trans B9.out.size hk)).mono ?_
  rintro e w10 ⟨rfl, hI, hb⟩
  rw [(m_s3 old fresh ⟨v, keep, torn⟩).2]
  rw [(m_s3 old fresh ⟨v, keep, torn⟩).1] at hI
  have B10 : Aside0 (Below w0.heap.size w0 w10) := ⟨B9.out.trans (hb.below B9.out.size)⟩
  have I10 := Aside0.mk hI
  clear hb hI I9 B9
  have e1 : w10.cell? ⟨w.heap.size, 1, none⟩ = some (.int .i64 keep) := (blk_cell ((B10.out.block _ LT0.out).trans BX.out) 1).trans rfl
  have e2 : w10.cell? ⟨w.heap.size, 2, none⟩ = some (.int .i64 torn) := (blk_cell ((B10.out.block _ LT0.out).trans BX.out) 2).trans rfl
  go_wp2_with (fail)
  refine (fail_calls I10.out (fun k hk => Nat.le_trans B10.out.size hk) trivial keep torn).mono ?_
  rintro e w11 ⟨rfl, hI, hb⟩
  have B11 : Aside0 (Below w0.heap.size w0 w11) := ⟨B10.out.trans (hb.below B10.out.size)⟩
  have I11 := Aside0.mk hI
  clear hb hI I10 B10
  clear e1 e2
  go_wp2_with (fail)
  refine (up_calls I11.out).mono ?_
  rintro e w12 ⟨rfl, hI, hb⟩
  have B12 : Aside0 (Below w0.heap.size w0 w12) := ⟨B11.out.trans (hb.below B11.out.size)⟩
  have I12 := Aside0.mk hI
  clear hb hI I11 B11
  go_wp2_with (fail)
  refine (read_calls I12.out nA (by decide)).mono ?_
  rintro e w13 ⟨rfl, hb⟩
  rw [(Holds.read (m_f3 fresh ⟨v, keep, torn⟩ keep torn)).1, (Holds.read (m_f3 fresh ⟨v, keep, torn⟩ keep torn)).2]
  have B13 : Aside0 (Below w0.heap.size w0 w13) := ⟨B12.out.trans (hb.mono B12.out.size)⟩
  clear hb I12 B12
  have g1 : (fresh.toList == fresh.toList) = true := beq_self_eq_true _
  go_wp2
  go_ret
  exact ⟨rfl, B0.out.trans (B13.out.mono B0.out.size)⟩
end Go.Proofs.Ytabngibognlmoaa.Q
