/- Saving and loading a snapshot. -/
import Derived.Outline
import Derived.StillTailTactics
import Derived.Deep.AppendLies
import Derived.Test.YthjfofgcikfepaaDk3
import Derived.Test.YthjfofgcikfepaaShP
namespace Go.Proofs.Ythjfofgcikfepaa.Q
open Go.Maps Go.WideShapes Go.WideMaps Go.RowKit Go.Proofs.YthjfofgcikfepaaW.PrintWords Go.Proofs.YthjfofgcikfepaaW.PrintLast Go.Proofs.YthjfofgcikfepaaW.PrintMore
set_option linter.unusedVariables false
set_option linter.unusedSimpArgs false
set_option maxHeartbeats 10000000
set_option maxRecDepth 100000
/-! the two files of a snapshot -/
abbrev nS : ByteArray := ⟨#[115, 110, 97, 112]⟩
abbrev nN : ByteArray := ⟨#[115, 110, 97, 112, 46, 110, 101, 119]⟩
theorem nS_name : nameS nS = true := by decide +kernel
theorem nN_name : nameS nN = true := by decide +kernel
theorem nSN : nS ≠ nN := by decide
theorem ltSN : ltN nS nN = true := by decide
theorem ltNS : ltN nN nS = false := by decide
theorem sSS : sameN nS nS = true := by decide
theorem sNN : sameN nN nN = true := by decide
theorem sSN : sameN nS nN = false := by decide
theorem sNS : sameN nN nS = false := by decide
def op1 (n : ByteArray) : Option ByteArray → Fs
 | some s => [(n, s)]
 | none => []
def snF (x y : Option ByteArray) : Fs := op1 nS x ++ op1 nN y
def osz : Option ByteArray → Nat
 | some s => s.size
 | none => 0
theorem snF_hasS (x y : Option ByteArray) : hasF (snF x y) nS = x.isSome := by cases x <;> cases y <;> simp [snF, op1, hasF, sSS, sNS]
theorem snF_hasN (x y : Option ByteArray) : hasF (snF x y) nN = y.isSome := by cases x <;> cases y <;> simp [snF, op1, hasF, sSN, sNN]
theorem snF_getS (x y : Option ByteArray) : getF (snF x y) nS = x.getD ⟨#[]⟩ := by cases x <;> cases y <;> simp [snF, op1, getF, sSS, sNS]
theorem snF_getN (x y : Option ByteArray) : getF (snF x y) nN = y.getD ⟨#[]⟩ := by cases x <;> cases y <;> simp [snF, op1, getF, sSN, sNN]
theorem snF_delS (x y : Option ByteArray) : delF (snF x y) nS = snF none y := by cases x <;> cases y <;> simp [snF, op1, delF, sSS, sNS]
theorem snF_delN (x y : Option ByteArray) : delF (snF x y) nN = snF x none := by cases x <;> cases y <;> simp [snF, op1, delF, sSN, sNN]
theorem snF_putS (x y : Option ByteArray) (s : ByteArray) : putF (snF x y) nS s = snF (some s) y := by
 unfold putF
 rw [snF_delS]
 cases y <;> simp [snF, op1, insF, ltSN]
theorem snF_putN (x y : Option ByteArray) (s : ByteArray) : putF (snF x y) nN s = snF x (some s) := by
 unfold putF
 rw [snF_delN]
 cases x <;> simp [snF, op1, insF, ltNS]
theorem snF_tot (x y : Option ByteArray) : totF (snF x y) = osz x + osz y := by cases x <;> cases y <;> simp [snF, op1, totF, osz]
theorem snF_len (x y : Option ByteArray) : (snF x y).length ≤ 2 := by cases x <;> cases y <;> simp [snF, op1]
theorem snF_rises (x y : Option ByteArray) : Rises (snF x y) := by cases x <;> cases y <;> simp [snF, op1, Rises, ltSN]
/-- a disk that holds no more than a snapshot's files, all of it sure -/
def idle (x y : Option ByteArray) (n : Int) (f : List Fal) (r : Int) (dn : Bool) : DK := ⟨snF x y, snF x y, [], n, dn, f, r⟩
abbrev cW (F : ByteArray) : Chg := ⟨1, nN, ⟨#[]⟩, F, 0⟩
abbrev cM : Chg := ⟨2, nN, nS, ⟨#[]⟩, 0⟩
abbrev cR : Chg := ⟨3, nN, ⟨#[]⟩, ⟨#[]⟩, 0⟩
theorem do_W (x y : Option ByteArray) (F : ByteArray) : doC (snF x y) (cW F) = snF x (some F) := by
 unfold doC; rw [if_neg (show ¬ (1 : Int) = 0 by decide), if_pos rfl]; exact snF_putN x y F
theorem do_M (x : Option ByteArray) (F : ByteArray) : doC (snF x (some F)) cM = snF (some F) none := by
 unfold doC; rw [if_neg (by decide), if_neg (by decide), if_pos rfl]
 show delF (putF (snF x (some F)) nS (getF (snF x (some F)) nN)) nN = _
 rw [snF_getN, snF_putS, snF_delN]; rfl
theorem do_R (x y : Option ByteArray) : doC (snF x y) cR = snF x none := by
 unfold doC; rw [if_neg (by decide), if_neg (by decide), if_neg (by decide), if_pos rfl]; exact snF_delN x y
/-! what a Save makes of a disk -/
def saveK (st : DK) (F : ByteArray) : DK × Int :=
 let p := writeK st nN F
 if p.2 = 0 then (if syncE p.1 = 0 then (let q := moveK (syncK p.1) nN nS; if q.2 = 0 then (syncK q.1, syncE q.1) else q) else (syncK p.1, syncE p.1)) else p
theorem ask1 (n : ByteArray) (h : nameS n = true) : askE false [n] = 0 := by unfold askE; rw [if_neg (by simp), if_pos (by simp [h])]
theorem ask2 (n m : ByteArray) (h : nameS n = true) (g : nameS m = true) : askE false [n, m] = 0 := by unfold askE; rw [if_neg (by simp), if_pos (by simp [h, g])]
/-- how a change ends on an idle disk: it was made, or the power failed at it -/
theorem fail_one (x y : Option ByteArray) (n : Int) (f : List Fal) (r keep torn : Int) (c : Chg) : ∃ l, (l = snF x y ∨ l = doC (snF x y) c ∨ (∃ t, l = doC (snF x y) (tornC c t) ∧ (c.kind = 0 ∨ c.kind = 1))) ∧ failK { idle x y n f r false with wait := [c] } keep torn = ⟨l, l, [], n, true, f, r⟩ := by
 refine ⟨failF { idle x y n f r false with wait := [c] } keep torn, ?_, ?_⟩
 ·unfold failF
  simp only [List.length_singleton]
  have h : clampK keep 1 = 0 ∨ clampK keep 1 = 1 := by unfold clampK; omega
  rcases h with h | h
  ·rw [h]
   simp only [List.take_zero, List.foldl_nil, List.getElem?_cons_zero]
   split
   ·rename_i hk; exact Or.inr (Or.inr ⟨torn, rfl, hk.2⟩)
   ·exact Or.inl rfl
  ·rw [h]
   exact Or.inr (Or.inl rfl)
 ·unfold failK
  rw [if_neg (by simp [idle])]
  rfl
theorem change_idle (x y : Option ByteArray) (n : Int) (f : List Fal) (r : Int) (c : Chg) :
  (changeK (idle x y n f r false) c = (⟨snF x y, doC (snF x y) c, [c], n + 1, false, f, r⟩, 0) ∧ hitI (idle x y n f r false) = none)
  ∨ ∃ i l, i < f.length ∧ (l = snF x y ∨ l = doC (snF x y) c ∨ (∃ t, l = doC (snF x y) (tornC c t) ∧ (c.kind = 0 ∨ c.kind = 1))) ∧ changeK (idle x y n f r false) c = (⟨l, l, [], n, true, f.eraseIdx i, r⟩, 21) := by
 unfold changeK
 cases hh : hitI (idle x y n f r false) with
 | none => exact Or.inl ⟨rfl, rfl⟩
 | some i =>
  right
  have hi : i < f.length := by
   unfold hitI at hh
   exact (List.findIdx?_eq_some_iff_getElem.1 hh).1
  obtain ⟨l, h1, h2⟩ := fail_one x y n (f.eraseIdx i) r (f.getD i zF).keep (f.getD i zF).torn c
  exact ⟨i, l, hi, h1, by simp only; exact congrArg (fun z => (z, (21 : Int))) h2⟩
theorem snF_torn (x y : Option ByteArray) (F : ByteArray) (t : Int) : ∃ G : ByteArray, G.size ≤ F.size ∧ doC (snF x y) (tornC (cW F) t) = snF x (some G) :=
 ⟨F.extract 0 (min t (F.size : Int)).toNat, by rw [ByteArray.size_extract]; omega, do_W x y _⟩
theorem change_W (x y : Option ByteArray) (n : Int) (f : List Fal) (r : Int) (F : ByteArray) :
  changeK (idle x y n f r false) (cW F) = (⟨snF x y, snF x (some F), [cW F], n + 1, false, f, r⟩, 0)
  ∨ ∃ i y', i < f.length ∧ osz y' ≤ max (osz y) F.size ∧ changeK (idle x y n f r false) (cW F) = (idle x y' n (f.eraseIdx i) r true, 21) := by
 rcases change_idle x y n f r (cW F) with h | ⟨i, l, hi, hl, h⟩
 ·left; rw [h.1, do_W]
 ·right
  rcases hl with rfl | rfl | ⟨t, rfl, _⟩
  ·exact ⟨i, y, hi, by omega, h⟩
  ·rw [do_W] at h; exact ⟨i, some F, hi, by show F.size ≤ _; omega, h⟩
  ·obtain ⟨G, h1, h2⟩ := snF_torn x y F t
   rw [h2] at h; exact ⟨i, some G, hi, by show G.size ≤ _; omega, h⟩
theorem change_M (x : Option ByteArray) (n : Int) (f : List Fal) (r : Int) (F : ByteArray) :
  changeK (idle x (some F) n f r false) cM = (⟨snF x (some F), snF (some F) none, [cM], n + 1, false, f, r⟩, 0)
  ∨ ∃ i x' y', i < f.length ∧ ((x' = x ∧ y' = some F) ∨ (x' = some F ∧ y' = none)) ∧ changeK (idle x (some F) n f r false) cM = (idle x' y' n (f.eraseIdx i) r true, 21) := by
 rcases change_idle x (some F) n f r cM with h | ⟨i, l, hi, hl, h⟩
 ·left; rw [h.1, do_M]
 ·right
  rcases hl with rfl | rfl | ⟨t, _, hk⟩
  ·exact ⟨i, x, some F, hi, Or.inl ⟨rfl, rfl⟩, h⟩
  ·rw [do_M] at h; exact ⟨i, some F, none, hi, Or.inr ⟨rfl, rfl⟩, h⟩
  ·exact absurd hk (by decide)
theorem change_R (x y : Option ByteArray) (n : Int) (f : List Fal) (r : Int) :
  changeK (idle x y n f r false) cR = (⟨snF x y, snF x none, [cR], n + 1, false, f, r⟩, 0)
  ∨ ∃ i y', i < f.length ∧ (y' = y ∨ y' = none) ∧ changeK (idle x y n f r false) cR = (idle x y' n (f.eraseIdx i) r true, 21) := by
 rcases change_idle x y n f r cR with h | ⟨i, l, hi, hl, h⟩
 ·left; rw [h.1, do_R]
 ·right
  rcases hl with rfl | rfl | ⟨t, _, hk⟩
  ·exact ⟨i, y, hi, Or.inl rfl, h⟩
  ·rw [do_R] at h; exact ⟨i, none, hi, Or.inr rfl, h⟩
  ·exact absurd hk (by decide)
/-! a Save on an idle disk -/
theorem write_idle (x y : Option ByteArray) (n : Int) (f : List Fal) (r : Int) (F : ByteArray) :
  writeK (idle x y n f r false) nN F = if roomE (idle x y n f r false) (y.getD ⟨#[]⟩).size F.size = true then (idle x y n f r false, 22) else changeK (idle x y n f r false) (cW F) := by
 unfold writeK
 rw [if_pos (show askE (idle x y n f r false).down [nN] = 0 from ask1 _ nN_name), show getF (idle x y n f r false).now nN = y.getD ⟨#[]⟩ from snF_getN x y]
theorem sync_up (st : DK) (h : st.down = false) : syncK st = { st with sure := st.now, wait := [] } ∧ syncE st = 0 := by
 unfold syncK syncE
 rw [h]
 exact ⟨rfl, rfl⟩
theorem move_idle (x : Option ByteArray) (n : Int) (f : List Fal) (r : Int) (F : ByteArray) :
  moveK (idle x (some F) n f r false) nN nS = changeK (idle x (some F) n f r false) cM := by
 unfold moveK
 rw [if_pos (show askE (idle x (some F) n f r false).down [nN, nS] = 0 from ask2 _ _ nN_name nS_name), if_pos (show hasF (idle x (some F) n f r false).now nN = true from snF_hasN x (some F)), if_neg (by decide)]
/-- the ends that a Save of F can have, from x, y -/
inductive Saved (x y : Option ByteArray) (n : Int) (f : List Fal) (r : Int) (F : ByteArray) : DK → Int → Prop
 | ok : Saved x y n f r F (idle (some F) none (n + 2) f r false) 0
 | full : 0 ≤ r → Saved x y n f r F (idle x y n f r false) 22
 | fall1 (i : Nat) (y' : Option ByteArray) : i < f.length → osz y' ≤ max (osz y) F.size → Saved x y n f r F (idle x y' n (f.eraseIdx i) r true) 21
 | fall2 (i : Nat) (x' y' : Option ByteArray) : i < f.length → ((x' = x ∧ y' = some F) ∨ (x' = some F ∧ y' = none)) → Saved x y n f r F (idle x' y' (n + 1) (f.eraseIdx i) r true) 21
theorem save_idle (x y : Option ByteArray) (n : Int) (f : List Fal) (r : Int) (F : ByteArray) : Saved x y n f r F (saveK (idle x y n f r false) F).1 (saveK (idle x y n f r false) F).2 := by
 unfold saveK
 simp only
 rw [write_idle]
 by_cases hr : roomE (idle x y n f r false) (y.getD ⟨#[]⟩).size F.size = true
 ·rw [if_pos hr, if_neg (show ¬ (22 : Int) = 0 by decide)]
  refine Saved.full ?_
  unfold roomE at hr
  rw [decide_eq_true_iff] at hr
  exact hr.1
 ·rw [if_neg hr]
  rcases change_W x y n f r F with h | ⟨i, y', hi, hy, h⟩
  ·rw [h]
   simp only
   have hs := sync_up ⟨snF x y, snF x (some F), [cW F], n + 1, false, f, r⟩ rfl
   have e : syncK ⟨snF x y, snF x (some F), [cW F], n + 1, false, f, r⟩ = idle x (some F) (n + 1) f r false := hs.1
   rw [if_pos trivial, if_pos hs.2, e, move_idle]
   rcases change_M x (n + 1) f r F with g | ⟨i, x', y', hi, hx, g⟩
   ·rw [g]
    simp only
    have hs2 := sync_up ⟨snF x (some F), snF (some F) none, [cM], n + 1 + 1, false, f, r⟩ rfl
    have e2 : syncK ⟨snF x (some F), snF (some F) none, [cM], n + 1 + 1, false, f, r⟩ = idle (some F) none (n + 2) f r false := by rw [hs2.1]; unfold idle; rw [Int.add_assoc]; rfl
    rw [if_pos trivial, e2, hs2.2]
    exact Saved.ok
   ·rw [g]
    simp only
    rw [if_neg (show ¬ (21 : Int) = 0 by decide)]
    exact Saved.fall2 i x' y' hi hx
  ·rw [h]
   simp only
   rw [if_neg (show ¬ (21 : Int) = 0 by decide)]
   exact Saved.fall1 i y' hi hy
/-! what the changes ask -/
theorem okC_W {x y : Option ByteArray} {F : ByteArray} (h : osz x + osz y + F.size ≤ 9000000000000000000) : OkC (snF x y) (cW F) :=
 ⟨show (0 : Int) ≤ 1 ∧ (1 : Int) ≤ 4 by decide, by show 8 ≤ _; decide, by show 0 ≤ _; decide, by have := snF_len x y; omega, by rw [snF_tot]; exact Nat.le_trans h (by decide), fun e => absurd e (show ¬ (1 : Int) = 4 by decide)⟩
theorem okC_M {x y : Option ByteArray} (h : osz x + osz y ≤ 9000000000000000000) : OkC (snF x y) cM :=
 ⟨by decide, by show 8 ≤ _; decide, by show 4 ≤ _; decide, by have := snF_len x y; omega, by rw [snF_tot]; exact Nat.le_trans h (by decide), fun e => absurd e (by decide)⟩
theorem okC_R {x y : Option ByteArray} (h : osz x + osz y ≤ 9000000000000000000) : OkC (snF x y) cR :=
 ⟨by decide, by show 8 ≤ _; decide, by show 0 ≤ _; decide, by have := snF_len x y; omega, by rw [snF_tot]; exact Nat.le_trans h (by decide), fun e => absurd e (by decide)⟩
theorem can_idle {x y : Option ByteArray} {n : Int} {f : List Fal} {r : Int} {dn : Bool} {c : Chg} (hn : 0 ≤ n ∧ n ≤ 1000000) (hf : f.length ≤ 1000000) (h : OkC (snF x y) c) : CanC (idle x y n f r dn) c :=
 ⟨h, by show (0 + 1) * 64 ≤ _; decide, by constructor <;> show _ <;> simp only [idle] <;> omega, by show f.length * 24 ≤ _; omega, ⟨h, trivial⟩⟩
/-! Save -/
theorem write_cases (x y : Option ByteArray) (n : Int) (f : List Fal) (r : Int) (F : ByteArray) :
  writeK (idle x y n f r false) nN F = (⟨snF x y, snF x (some F), [cW F], n + 1, false, f, r⟩, 0) ∧ saveK (idle x y n f r false) F = (let q := moveK (idle x (some F) (n + 1) f r false) nN nS; if q.2 = 0 then (syncK q.1, syncE q.1) else q)
  ∨ ((writeK (idle x y n f r false) nN F).2 != 0) = true ∧ saveK (idle x y n f r false) F = writeK (idle x y n f r false) nN F := by
 by_cases h0 : (writeK (idle x y n f r false) nN F).2 = 0
 ·left
  have hw : writeK (idle x y n f r false) nN F = (⟨snF x y, snF x (some F), [cW F], n + 1, false, f, r⟩, 0) := by
   rw [write_idle] at h0 ⊢
   split at h0
   ·exact absurd h0 (show ¬ (22 : Int) = 0 by decide)
   ·rename_i hr
    rw [if_neg hr]
    rcases change_W x y n f r F with h | ⟨i, y', hi, hy, h⟩
    ·exact h
    ·rw [h] at h0; exact absurd h0 (show ¬ (21 : Int) = 0 by decide)
  refine ⟨hw, ?_⟩
  unfold saveK
  simp only
  rw [hw]
  simp only
  have hs := sync_up ⟨snF x y, snF x (some F), [cW F], n + 1, false, f, r⟩ rfl
  have e : syncK ⟨snF x y, snF x (some F), [cW F], n + 1, false, f, r⟩ = idle x (some F) (n + 1) f r false := hs.1
  rw [if_pos trivial, if_pos hs.2, e]
 ·right
  exact ⟨bne_iff_ne.mpr h0, by unfold saveK; simp only; rw [if_neg h0]⟩
theorem move_cases (x : Option ByteArray) (n : Int) (f : List Fal) (r : Int) (F : ByteArray) :
  moveK (idle x (some F) n f r false) nN nS = (⟨snF x (some F), snF (some F) none, [cM], n + 1, false, f, r⟩, 0)
  ∨ ((moveK (idle x (some F) n f r false) nN nS).2 != 0) = true := by
 rw [move_idle]
 rcases change_M x n f r F with h | ⟨i, x', y', hi, hx, h⟩
 ·exact Or.inl h
 ·right; rw [h]; rfl
theorem frame_of {t : ByteArray} (h : t.size ≤ 262144) : frame_Frame.f 2621541 t = some (frameS t, 0) := by
 rw [oct_frame t _ (by omega), if_neg (by omega)]
theorem save_calls {w : World} {d : Nat} {ok : Nat → Prop} {x y : Option ByteArray} {n : Int} {f : List Fal} {r : Int} (h : IsD w d ok (idle x y n f r false)) (hnew : ∀ k, w.heap.size ≤ k → ok k)
  (a b : Int) (A : Option Addr) (ms : List Int) (c : Nat) (t : ByteArray) (hC : Kd.C (Kd.int .i64) w A ms.length ms) (hc : ms.length ≤ c) (h0 : chkS a b ms t = 0)
  (hz : osz x + osz y ≤ 3000000000000000000) (hn : 0 ≤ n ∧ n ≤ 100000) (hf : f.length ≤ 1000000) :
  Calls Try.prog 21 #[.pointer (some ⟨d, 0, none⟩), .agg #[.int .i64 a, .int .i64 b, .slice A ms.length c, .string t]] w fun e w' => e = .returned (.int .i64 (saveK (idle x y n f r false) (frameS (shotT a b ms t))).2) ∧ IsD w' d ok (saveK (idle x y n f r false) (frameS (shotT a b ms t))).1 ∧ Kp ok w w' := by
 have hu := Try.underlying24
 have HX := Aside0.mk (heap_alloc_new w (.cells #[.int .i64 a, .int .i64 b, .slice A ms.length c, .string t] 24 (0, 0)))
 have B1 : Aside0 (Below w.heap.size w (w.alloc (.cells #[.int .i64 a, .int .i64 b, .slice A ms.length c, .string t] 24 (0, 0)))) := ⟨below_alloc (Below.refl _ _) _⟩
 have H1 := Aside0.mk (h.step (W' := w.alloc (.cells #[.int .i64 a, .int .i64 b, .slice A ms.length c, .string t] 24 (0, 0))) (fun k _ hk => B1.out.block k hk))
 have hCw := Kd.C_below hC B1.out
 have HCW := Aside0.mk hCw
 have e0 := (blk_cell HX.out 0).trans rfl
 have e1 := (blk_cell HX.out 1).trans rfl
 have e2 := (blk_cell HX.out 2).trans rfl
 have e3 := (blk_cell HX.out 3).trans rfl
 have HN := Aside0.mk hnew
 have HCC := Aside0.mk hc
 have HZ := Aside0.mk hz
 have HNN := Aside0.mk hn
 have HF := Aside0.mk hf
 have HT := Aside0.mk (shotT_size (fineS h0))
 obtain ⟨k1, hk1⟩ := (enc_ev a b ms t).rounds
 have hen : encS a b ms t = (shotT a b ms t, 0) := by unfold encS; rw [if_pos h0]
 rw [hen] at hk1
 have HE := Aside0.mk hk1
 clear h hnew hC hc hz hn hf h0 hk1 hen hCw
 generalize shotT a b ms t = T at HT HE ⊢
 have HFR := Aside0.mk (frame_of (t := T) (by have := HT.out; omega))
 have HFS : Aside0 ((frameS T).size ≤ 131190) := ⟨by rw [frameS_size]; have := HT.out; omega⟩
 generalize frameS T = F at HFR HFS ⊢
 go_enter Try.func21, Try.ntmps21
 go_wp2_with (fail)
 refine (shot_Encode.calls k1 a b A c ms t T 0 _ HCW.out HCC.out HE.out).mono ?_
 rintro e w2 ⟨rfl, hb⟩
 have B2 := Aside0.mk (below_step B1.out hb)
 have H2 := Aside0.mk (H1.out.below hb)
 clear hb e0 e1 e2 e3 HX
 go_wp2_with (fail)
 refine (frame_Frame.calls 2621541 T F 0 _ HFR.out).mono ?_
 rintro e w3 ⟨rfl, hb⟩
 have B3 := Aside0.mk (below_step B2.out hb)
 have H3 := Aside0.mk (H2.out.below hb)
 clear hb
 go_wp2_with (fail)
 refine (write_calls H3.out (fun k hk => HN.out k (Nat.le_trans B3.out.size hk)) nN F (by decide) ⟨by show totF (snF x y) ≤ _; rw [snF_tot]; have := HZ.out; omega, by have := HFS.out; omega⟩ (fun _ _ => can_idle (by have := HNN.out; omega) HF.out (okC_W (by have := HZ.out; have := HFS.out; omega)))).mono ?_
 rintro e w4 ⟨rfl, hI, hK⟩
 have K4 := Aside0.mk ((Kp.of_below B3.out).trans hK)
 have I4 := Aside0.mk hI
 clear hI hK
 rcases write_cases x y n f r F with ⟨hw, hs⟩ | ⟨hw, hs⟩
 ·rw [hw]
  have I5 : Aside0 (IsD w4 d ok ⟨snF x y, snF x (some F), [cW F], n + 1, false, f, r⟩) := ⟨by have := I4.out; rw [hw] at this; exact this⟩
  have HS := Aside0.mk hs
  clear hw hs I4
  go_wp2_with (fail)
  refine (sync_calls I5.out (fun k hk => HN.out k (Nat.le_trans K4.out.size hk))).mono ?_
  rintro e w5 ⟨rfl, hI, hK⟩
  rw [(sync_up ⟨snF x y, snF x (some F), [cW F], n + 1, false, f, r⟩ rfl).2]
  have I6 : Aside0 (IsD w5 d ok (idle x (some F) (n + 1) f r false)) := ⟨by rw [(sync_up ⟨snF x y, snF x (some F), [cW F], n + 1, false, f, r⟩ rfl).1] at hI; exact hI⟩
  have K6 := Aside0.mk (K4.out.trans hK)
  clear hI hK I5 K4
  go_wp2_with (fail)
  refine (move_calls I6.out (fun k hk => HN.out k (Nat.le_trans K6.out.size hk)) nN nS (by decide) (by decide) (fun _ _ _ _ => can_idle (by have := HNN.out; omega) HF.out (okC_M (by show osz x + F.size ≤ _; have := HZ.out; have := HFS.out; omega)))).mono ?_
  rintro e w7 ⟨rfl, hI, hK⟩
  have K7 := Aside0.mk (K6.out.trans hK)
  have I7 := Aside0.mk hI
  clear hI hK I6 K6
  rcases move_cases x (n + 1) f r F with hw | hw
  ·have I8 : Aside0 (IsD w7 d ok ⟨snF x (some F), snF (some F) none, [cM], n + 1 + 1, false, f, r⟩) := ⟨by have := I7.out; rw [hw] at this; exact this⟩
   have HS2 : Aside0 (saveK (idle x y n f r false) F = (syncK ⟨snF x (some F), snF (some F) none, [cM], n + 1 + 1, false, f, r⟩, syncE ⟨snF x (some F), snF (some F) none, [cM], n + 1 + 1, false, f, r⟩)) := ⟨by rw [HS.out, hw]; rfl⟩
   rw [hw]
   clear hw I7
   go_wp2_with (fail)
   refine (sync_calls I8.out (fun k hk => HN.out k (Nat.le_trans K7.out.size hk))).mono ?_
   rintro e w8 ⟨rfl, hI, hK⟩
   have K8 := Aside0.mk (K7.out.trans hK)
   have I9 := Aside0.mk hI
   clear hI hK
   go_wp2
   go_ret
   exact ⟨by rw [HS2.out]; rfl, by rw [HS2.out]; exact I9.out, K8.out⟩
  ·have HS2 : Aside0 (saveK (idle x y n f r false) F = moveK (idle x (some F) (n + 1) f r false) nN nS) := ⟨by rw [HS.out]; exact if_neg (bne_iff_ne.1 hw)⟩
   go_wp2
   go_ret
   exact ⟨by rw [HS2.out]; rfl, by rw [HS2.out]; exact I7.out, K7.out⟩
 ·have HS := Aside0.mk hs
  clear hs
  go_wp2
  go_ret
  exact ⟨by rw [HS.out]; rfl, by rw [HS.out]; exact I4.out, K4.out⟩
/-! Load -/
def loadK (st : DK) : DK × Int :=
 if readE st nN = 0 then (let p := removeK st nN; if p.2 = 0 then (syncK p.1, syncE p.1) else p) else (st, 0)
/-- what a file says: a snapshot, that it is one, an error -/
def noL (e : Int) : (Int × Int × List Int × ByteArray) × Bool × Int := ((0, 0, [], ⟨#[]⟩), false, e)
def fileR (F : ByteArray) : (Int × Int × List Int × ByteArray) × Bool × Int :=
 let u := unframe F 0
 let s := decS 7 u.1
 if u.2.2 = 0 ∧ u.2.1 = (F.size : Int) ∧ s.2.2.2.2 = 0 then ((s.1, s.2.1, s.2.2.1, s.2.2.2.1), true, 0) else noL 31
def loadR : Option ByteArray → (Int × Int × List Int × ByteArray) × Bool × Int
 | none => noL 0
 | some F => fileR F
theorem read_N (x y : Option ByteArray) (n : Int) (f : List Fal) (r : Int) : readE (idle x y n f r false) nN = if y.isSome = true then 0 else 4 := by
 unfold readE
 rw [if_pos (show askE (idle x y n f r false).down [nN] = 0 from ask1 _ nN_name), show hasF (idle x y n f r false).now nN = y.isSome from snF_hasN x y]
theorem read_S (x y : Option ByteArray) (n : Int) (f : List Fal) (r : Int) : readE (idle x y n f r false) nS = (if x.isSome = true then 0 else 4) ∧ readS (idle x y n f r false) nS = x.getD ⟨#[]⟩ := by
 have h : readE (idle x y n f r false) nS = if x.isSome = true then 0 else 4 := by
  unfold readE
  rw [if_pos (show askE (idle x y n f r false).down [nS] = 0 from ask1 _ nS_name), show hasF (idle x y n f r false).now nS = x.isSome from snF_hasS x y]
 refine ⟨h, ?_⟩
 unfold readS
 rw [h]
 cases x with
 | none => rfl
 | some s => exact (if_pos rfl).trans (snF_getS _ _)
theorem remove_idle (x y : Option ByteArray) (n : Int) (f : List Fal) (r : Int) (hy : y.isSome = true) : removeK (idle x y n f r false) nN = changeK (idle x y n f r false) cR := by
 unfold removeK
 rw [if_pos (show askE (idle x y n f r false).down [nN] = 0 from ask1 _ nN_name), if_pos (show hasF (idle x y n f r false).now nN = true by rw [← hy]; exact snF_hasN x y)]
/-- the ends that a Load can have -/
theorem load_cases (x y : Option ByteArray) (n : Int) (f : List Fal) (r : Int) :
  (readE (idle x y n f r false) nN = 4 ∧ y = none ∧ loadK (idle x y n f r false) = (idle x none n f r false, 0))
  ∨ (readE (idle x y n f r false) nN = 0 ∧ y.isSome = true ∧ removeK (idle x y n f r false) nN = (⟨snF x y, snF x none, [cR], n + 1, false, f, r⟩, 0) ∧ loadK (idle x y n f r false) = (idle x none (n + 1) f r false, 0))
  ∨ (readE (idle x y n f r false) nN = 0 ∧ y.isSome = true ∧ ∃ i y', i < f.length ∧ (y' = y ∨ y' = none) ∧ removeK (idle x y n f r false) nN = (idle x y' n (f.eraseIdx i) r true, 21) ∧ loadK (idle x y n f r false) = (idle x y' n (f.eraseIdx i) r true, 21)) := by
 cases hy : y with
 | none =>
  left
  have h := read_N x none n f r
  rw [if_neg (by simp)] at h
  exact ⟨h, rfl, by unfold loadK; rw [h, if_neg (by decide)]⟩
 | some s =>
  right
  have h := read_N x (some s) n f r
  rw [if_pos (by rfl)] at h
  have hr := remove_idle x (some s) n f r rfl
  rcases change_R x (some s) n f r with g | ⟨i, y', hi, hx, g⟩
  ·left
   refine ⟨h, rfl, by rw [hr, g], ?_⟩
   unfold loadK
   simp only
   have hs := sync_up ⟨snF x (some s), snF x none, [cR], n + 1, false, f, r⟩ rfl
   rw [if_pos h, hr, g]
   simp only
   rw [if_pos trivial, hs.1, hs.2]
   rfl
  ·right
   refine ⟨h, rfl, i, y', hi, hx, by rw [hr, g], ?_⟩
   unfold loadK
   simp only
   rw [if_pos h, hr, g]
   exact if_neg (show ¬ (21 : Int) = 0 by decide)
theorem blk4 {w : World} {g : Nat} {t : TypeId} {c0 c1 c2 c3 : Value} (h : w.heap[g]? = some (.cells #[c0, c1, c2, c3] t (0, 0))) (v0 v1 v2 v3 : Value) :
  ((((w.setCell ⟨g, 0, none⟩ v0).setCell ⟨g, 1, none⟩ v1).setCell ⟨g, 2, none⟩ v2).setCell ⟨g, 3, none⟩ v3).heap[g]? = some (.cells #[v0, v1, v2, v3] t (0, 0)) :=
 blk_put (blk_put (blk_put (blk_put h 0 v0 rfl) 1 v1 rfl) 2 v2 rfl) 3 v3 rfl
theorem far4 (w : World) (g : Nat) (v0 v1 v2 v3 : Value) (k : Nat) (hk : k ≠ g) :
  ((((w.setCell ⟨g, 0, none⟩ v0).setCell ⟨g, 1, none⟩ v1).setCell ⟨g, 2, none⟩ v2).setCell ⟨g, 3, none⟩ v3).heap[k]? = w.heap[k]? := by
 rw [Below.heap_setCell _ _ _ _ hk, Below.heap_setCell _ _ _ _ hk, Below.heap_setCell _ _ _ _ hk, Below.heap_setCell _ _ _ _ hk]
theorem kp_far4 {ok : Nat → Prop} (w : World) (g : Nat) (v0 v1 v2 v3 : Value) (h : ok g) : Kp ok w ((((w.setCell ⟨g, 0, none⟩ v0).setCell ⟨g, 1, none⟩ v1).setCell ⟨g, 2, none⟩ v2).setCell ⟨g, 3, none⟩ v3) :=
 ((((Kp.refl ok w).set h v0).set h v1).set h v2).set h v3
theorem unframe_size (s : ByteArray) (a : Int) : (unframe s a).1.size ≤ s.size := by
 unfold unframe
 split
 ·exact Nat.zero_le _
 ·unfold unframeN
  repeat' split
  ·exact Nat.zero_le _
  ·exact Nat.zero_le _
  ·exact Nat.zero_le _
  ·show (ByteArray.extract s _ _).size ≤ _; rw [ByteArray.size_extract]; omega
  ·exact Nat.zero_le _
theorem load_calls {w : World} {d : Nat} {ok : Nat → Prop} {x y : Option ByteArray} {n : Int} {f : List Fal} {r : Int} (h : IsD w d ok (idle x y n f r false)) (hnew : ∀ k, w.heap.size ≤ k → ok k)
  (hx : osz x ≤ 140737488351232) (hz : osz x + osz y ≤ 1000000000000000000) (hn : 0 ≤ n ∧ n ≤ 100000) (hf : f.length ≤ 1000000) (R : (Int × Int × List Int × ByteArray) × Bool × Int) (hR : R = if (loadK (idle x y n f r false)).2 = 0 then loadR x else noL (loadK (idle x y n f r false)).2) :
  Calls Try.prog 24 #[.pointer (some ⟨d, 0, none⟩)] w fun e w' => ∃ v, e = .returned (.tuple #[.agg #[.int .i64 R.1.1, .int .i64 R.1.2.1, v, .string R.1.2.2.2], .bool R.2.1, .int .i64 R.2.2]) ∧ Kd.R (Kd.int .i64) 3 w' w.heap.size (fun k => w.heap.size ≤ k) v R.1.2.2.1 ∧ IsD w' d ok (loadK (idle x y n f r false)).1 ∧ Kp ok w w' := by
 have hu := Try.underlying24
 have HX := Aside0.mk (heap_alloc_new w (.cells #[.int .i64 0, .int .i64 0, .slice none 0 0, .string ⟨#[]⟩] 24 (0, 0)))
 have B1 : Aside0 (Below w.heap.size w (w.alloc (.cells #[.int .i64 0, .int .i64 0, .slice none 0 0, .string ⟨#[]⟩] 24 (0, 0)))) := ⟨below_alloc (Below.refl _ _) _⟩
 have H1 := Aside0.mk ((h.bound.mono (ok' := fun k => (ok k ∧ k < w.heap.size) ∨ w.heap.size < k) (fun k hk => Or.inl hk)).step (W' := w.alloc (.cells #[.int .i64 0, .int .i64 0, .slice none 0 0, .string ⟨#[]⟩] 24 (0, 0))) (fun k _ hk => B1.out.block k hk))
 have HN := Aside0.mk hnew
 have HZ := Aside0.mk hz
 have HX1 := Aside0.mk hx
 have OKG : Aside0 (∀ k, ((ok k ∧ k < w.heap.size) ∨ w.heap.size < k) → ok k ∧ k ≠ w.heap.size) := ⟨fun k hk => hk.elim (fun h => ⟨h.1, by omega⟩) (fun h => ⟨hnew k (by omega), by omega⟩)⟩
 have HNN := Aside0.mk hn
 have HF := Aside0.mk hf
 have HR := Aside0.mk hR
 have HS : Aside0 (w.heap.size < (w.alloc (.cells #[.int .i64 0, .int .i64 0, .slice none 0 0, .string ⟨#[]⟩] 24 (0, 0))).heap.size) := ⟨blk_lt HX.out⟩
 clear h hnew hz hx hn hf hR
 go_enter Try.func24, Try.ntmps24
 go_wp2_with (fail)
 generalize w.alloc (.cells #[.int .i64 0, .int .i64 0, .slice none 0 0, .string ⟨#[]⟩] 24 (0, 0)) = w1 at HX B1 H1 HS ⊢
 refine (down_calls H1.out).mono ?_
 rintro e w2 ⟨rfl, rfl⟩
 go_wp2_with (fail)
 refine (read_calls H1.out nN (by decide)).mono ?_
 rintro e w2 ⟨rfl, hb⟩
 have B2 := Aside0.mk (below_step B1.out hb)
 have H2 := Aside0.mk (H1.out.below hb)
 have X2 := Aside0.mk (blk_below HX.out hb)
 have S2 : Aside0 (w.heap.size < w2.heap.size) := ⟨Nat.lt_of_lt_of_le HS.out hb.size⟩
 clear hb H1 HX B1 HS
 rcases load_cases x y n f r with ⟨h0, hy, hl⟩ | ⟨h0, hy, hrm, hl⟩ | ⟨h0, hy, i, y', hi, hyy, hrm, hl⟩
 ·rw [h0]
  obtain ⟨n', hn'⟩ : ∃ n', n' = n := ⟨_, rfl⟩
  have KQ := Aside0.mk (Kp.of_below (ok := ok) B2.out)
  have HQ : Aside0 (IsD w2 d (fun k => (ok k ∧ k < w.heap.size) ∨ w.heap.size < k) (idle x none n' f r false)) := ⟨by rw [hn', ← hy]; exact H2.out⟩
  have XQ := X2
  have LK : Aside0 (loadK (idle x y n f r false) = (idle x none n' f r false, 0)) := ⟨by rw [hl, hn']⟩
  clear h0 hl B2 H2 X2 hn' hy S2
  generalize w2 = wq at KQ HQ XQ ⊢
  have SQ : Aside0 (w.heap.size < wq.heap.size) := ⟨blk_lt XQ.out⟩
  go_wp2_with (fail)
  refine (read_calls HQ.out nS (by decide)).mono ?_
  rintro e w5 ⟨rfl, hb⟩
  have K5 := Aside0.mk (KQ.out.trans (Kp.of_below hb))
  have H5 := Aside0.mk (HQ.out.below hb)
  have X5 := Aside0.mk (blk_below XQ.out hb)
  clear hb HQ XQ KQ SQ
  have hrs := read_S x none n' f r
  rw [hrs.1, hrs.2]
  clear hrs
  cases x with
  | none =>
   have e0 := (blk_cell X5.out 0).trans rfl
   have e1 := (blk_cell X5.out 1).trans rfl
   have e2 := (blk_cell X5.out 2).trans rfl
   have e3 := (blk_cell X5.out 3).trans rfl
   have f0 := blk_frozen X5.out 0
   have f1 := blk_frozen X5.out 1
   have f2 := blk_frozen X5.out 2
   have f3 := blk_frozen X5.out 3
   simp only [Option.isSome_none, Bool.false_eq_true, if_false, Option.getD_none]
   go_wp2
   refine bodyPost_ret (results_ctt rfl _ _ w.heap.size 24 #[.int .i64 0, .int .i64 0, .slice none 0 0, .string ⟨#[]⟩] (0, 0) _ rfl (blk4 X5.out _ _ _ _) rfl rfl rfl) rfl ?_
   refine ⟨.slice none 0 0, ?_, ?_, ?_, ?_⟩
   ·rw [HR.out, LK.out]; rfl
   ·rw [HR.out, LK.out]; exact Kd.R_nil _ _ _ _ _
   ·rw [LK.out]; exact (H5.out.step (fun k hk _ => far4 _ _ _ _ _ _ k (OKG.out k hk).2)).mono (fun k hk => (OKG.out k hk).1)
   ·exact K5.out.trans (kp_far4 _ _ _ _ _ _ (HN.out _ (Nat.le_refl _)))
  | some F =>
   simp only [Option.isSome_some, if_true, Option.getD_some]
   have HFZ : Aside0 (F.size ≤ 140737488351232) := ⟨HX1.out⟩
   obtain ⟨u, hu1⟩ : ∃ u, u = unframe F 0 := ⟨_, rfl⟩
   have HU := Aside0.mk ((oct_unframe F (by have := HFZ.out; omega) 0 _ (Nat.lt_succ_self _)).trans (congrArg some hu1.symm))
   have HUZ : Aside0 (u.1.size ≤ 140737488351232) := ⟨by rw [hu1]; exact Nat.le_trans (unframe_size F 0) HFZ.out⟩
   obtain ⟨u1, u2, u3⟩ := u
   obtain ⟨s, hs1⟩ : ∃ s, s = decS 7 u1 := ⟨_, rfl⟩
   obtain ⟨k2, hk2⟩ := (dec_ev u1 HUZ.out).rounds
   have HD := Aside0.mk (hk2.trans (congrArg some hs1.symm))
   have HFR : Aside0 (fileR F = if u3 = 0 ∧ u2 = (F.size : Int) ∧ s.2.2.2.2 = 0 then ((s.1, s.2.1, s.2.2.1, s.2.2.2.1), true, 0) else noL 31) := ⟨by unfold fileR; simp only; rw [← hu1, ← hs1]⟩
   obtain ⟨s1, s2, s3, s4, s5⟩ := s
   clear hu1 hs1 hk2 HX1
   go_wp2_with (fail)
   refine (frame_Unframe.calls _ F 0 u1 u2 u3 _ HU.out).mono ?_
   rintro e w6 ⟨rfl, ⟨⟨m6, rfl⟩⟩⟩
   have K6 := Aside0.mk (K5.out.drewN m6)
   have H6 := Aside0.mk (H5.out.step (W' := w5.drewN m6) (fun _ _ _ => rfl))
   have X6 := Aside0.mk (blk_drewN X5.out m6)
   generalize w5.drewN m6 = w6 at K6 H6 X6 ⊢
   clear X5 H5 K5
   go_wp2_with (fail)
   refine (shot_Decode.calls k2 u1 s1 s2 s3 s4 s5 _ HD.out).mono ?_
   rintro e w7 ⟨v, rfl, hRow, hb⟩
   have K7 := Aside0.mk (K6.out.trans (Kp.of_below hb))
   have H7 := Aside0.mk (H6.out.below hb)
   have X7 := Aside0.mk (blk_below X6.out hb)
   have S7 : Aside0 (w.heap.size < w6.heap.size) := ⟨blk_lt X6.out⟩
   have R7 := Aside0.mk hRow
   obtain ⟨As, cs, rfl, hlcs, hCs⟩ := Kd.R_reads hRow
   have S8 : Aside0 (w.heap.size < w7.heap.size) := ⟨blk_lt X7.out⟩
   clear hRow hb K6 H6 X6
   have HX8 := Aside0.mk (heap_alloc_new w7 (.cells #[.int .i64 0, .int .i64 0, .slice none 0 0, .string ⟨#[]⟩] 24 (0, 0)))
   have g0 := (blk_cell HX8.out 0).trans rfl
   have g1 := (blk_cell HX8.out 1).trans rfl
   have g2 := (blk_cell HX8.out 2).trans rfl
   have g3 := (blk_cell HX8.out 3).trans rfl
   have f0 := blk_frozen HX8.out 0
   have f1 := blk_frozen HX8.out 1
   have f2 := blk_frozen HX8.out 2
   have f3 := blk_frozen HX8.out 3
   have b8 : Below w7.heap.size w7 (w7.alloc (.cells #[.int .i64 s1, .int .i64 s2, .slice As s3.length cs, .string s4] 24 (0, 0))) := below_alloc (Below.refl _ _) _
   have K8 := Aside0.mk (K7.out.trans (Kp.of_below b8))
   have H8 := Aside0.mk (H7.out.below b8)
   have X8 := Aside0.mk (blk_below X7.out b8)
   have R8 := Aside0.mk (Kd.R_step (Kd.R_bound R7.out) (fun k hk hlt => b8.block k hlt))
   have Y8 := Aside0.mk (heap_alloc_new w7 (.cells #[.int .i64 s1, .int .i64 s2, .slice As s3.length cs, .string s4] 24 (0, 0)))
   clear b8 K7 H7 X7 R7 hCs HX8
   have e0 := (blk_cell X8.out 0).trans rfl
   have e1 := (blk_cell X8.out 1).trans rfl
   have e2 := (blk_cell X8.out 2).trans rfl
   have e3 := (blk_cell X8.out 3).trans rfl
   have k0 := blk_frozen X8.out 0
   have k1 := blk_frozen X8.out 1
   have k2_ := blk_frozen X8.out 2
   have k3 := blk_frozen X8.out 3
   have j0 := (blk_cell Y8.out 0).trans rfl
   have j1 := (blk_cell Y8.out 1).trans rfl
   have j2 := (blk_cell Y8.out 2).trans rfl
   have j3 := (blk_cell Y8.out 3).trans rfl
   by_cases hok : u3 = 0 ∧ u2 = (F.size : Int) ∧ s5 = 0
   ·obtain ⟨rfl, rfl, rfl⟩ := hok
    rw [if_pos ⟨rfl, rfl, rfl⟩] at HFR
    have c2 : ((F.size : Int) != (F.size : Int)) = false := by simp
    go_wp2
    refine bodyPost_ret (results_ctt rfl _ _ w.heap.size 24 #[.int .i64 s1, .int .i64 s2, .slice As s3.length cs, .string s4] (0, 0) _ rfl (blk4 X8.out _ _ _ _) rfl rfl rfl) rfl ?_
    refine ⟨.slice As s3.length cs, ?_, ?_, ?_, ?_⟩
    ·rw [HR.out, LK.out]; show _ = Ending.returned (.tuple #[.agg #[.int .i64 (fileR F).1.1, .int .i64 (fileR F).1.2.1, _, .string (fileR F).1.2.2.2], .bool (fileR F).2.1, .int .i64 (fileR F).2.2]); rw [HFR.out]; rfl
    ·rw [HR.out, LK.out]
     show Kd.R (Kd.int .i64) 3 _ _ _ _ (fileR F).1.2.2.1
     rw [HFR.out]
     exact Kd.R_mono (Kd.R_lower (Kd.R_step (Kd.R_bound R8.out) (fun k hk _ => far4 _ _ _ _ _ _ k (by have := hk.2.1; have := S7.out; omega))) (Nat.le_of_lt S7.out)) (fun k hk => by have := hk.2.1; have := S7.out; omega)
    ·rw [LK.out]; exact (H8.out.step (fun k hk _ => far4 _ _ _ _ _ _ k (OKG.out k hk).2)).mono (fun k hk => (OKG.out k hk).1)
    ·exact K8.out.trans (kp_far4 _ _ _ _ _ _ (HN.out _ (Nat.le_refl _)))
   ·rw [if_neg hok] at HFR
    have hfin : ∀ (w' : World), w' = (((((w7.alloc (.cells #[.int .i64 s1, .int .i64 s2, .slice As s3.length cs, .string s4] 24 (0, 0))).setCell ⟨w.heap.size, 0, none⟩ (.int .i64 0)).setCell ⟨w.heap.size, 1, none⟩ (.int .i64 0)).setCell ⟨w.heap.size, 2, none⟩ (.slice none 0 0)).setCell ⟨w.heap.size, 3, none⟩ (.string ⟨#[]⟩)) → Kd.R (Kd.int .i64) 3 w' w.heap.size (fun k => w.heap.size ≤ k) (.slice none 0 0) R.1.2.2.1 ∧ IsD w' d ok (loadK (idle (some F) y n f r false)).1 ∧ Kp ok w w' := fun w' hw => by
     subst hw
     refine ⟨?_, ?_, ?_⟩
     ·rw [HR.out, LK.out]; show Kd.R (Kd.int .i64) 3 _ _ _ _ (fileR F).1.2.2.1; rw [HFR.out]; exact Kd.R_nil _ _ _ _ _
     ·rw [LK.out]; exact (H8.out.step (fun k hk _ => far4 _ _ _ _ _ _ k (OKG.out k hk).2)).mono (fun k hk => (OKG.out k hk).1)
     ·exact K8.out.trans (kp_far4 _ _ _ _ _ _ (HN.out _ (Nat.le_refl _)))
    have hR2 : R = noL 31 := by rw [HR.out, LK.out]; exact HFR.out
    have HFIN := Aside0.mk hfin
    have HR2 := Aside0.mk hR2
    have HOK := Aside0.mk hok
    clear hfin hR2 hok
    have d1 : u3 = 0 ∨ (u3 != 0) = true := (Decidable.em (u3 = 0)).imp id (fun h => bne_iff_ne.mpr h)
    have d2 : u2 = (F.size : Int) ∨ (u2 != (F.size : Int)) = true := (Decidable.em _).imp id (fun h => bne_iff_ne.mpr h)
    have d3 : s5 = 0 ∨ (s5 != 0) = true := (Decidable.em _).imp id (fun h => bne_iff_ne.mpr h)
    rcases d1 with rfl | d1
    ·rcases d2 with rfl | d2
     ·rcases d3 with rfl | d3
      ·exact absurd ⟨rfl, rfl, rfl⟩ HOK.out
      ·have c2 : ((F.size : Int) != (F.size : Int)) = false := by simp
       go_wp2
       refine bodyPost_ret (results_ctt rfl _ _ w.heap.size 24 #[.int .i64 0, .int .i64 0, .slice none 0 0, .string ⟨#[]⟩] (0, 0) _ rfl (blk4 X8.out _ _ _ _) rfl rfl rfl) rfl ?_
       exact ⟨.slice none 0 0, by rw [HR2.out]; rfl, HFIN.out _ rfl⟩
     ·go_wp2
      refine bodyPost_ret (results_ctt rfl _ _ w.heap.size 24 #[.int .i64 0, .int .i64 0, .slice none 0 0, .string ⟨#[]⟩] (0, 0) _ rfl (blk4 X8.out _ _ _ _) rfl rfl rfl) rfl ?_
      exact ⟨.slice none 0 0, by rw [HR2.out]; rfl, HFIN.out _ rfl⟩
    ·go_wp2
     refine bodyPost_ret (results_ctt rfl _ _ w.heap.size 24 #[.int .i64 0, .int .i64 0, .slice none 0 0, .string ⟨#[]⟩] (0, 0) _ rfl (blk4 X8.out _ _ _ _) rfl rfl rfl) rfl ?_
     exact ⟨.slice none 0 0, by rw [HR2.out]; rfl, HFIN.out _ rfl⟩
 ·rw [h0]
  have rem := remove_calls (ok := fun k => (ok k ∧ k < w.heap.size) ∨ w.heap.size < k) H2.out (fun k hk => Or.inr (Nat.lt_of_lt_of_le S2.out hk)) nN (by decide) (fun _ _ _ => can_idle (by have := HNN.out; omega) HF.out (okC_R (by have := HZ.out; omega)))
  rw [hrm] at rem
  have REM := Aside0.mk rem
  have LK0 := Aside0.mk hl
  clear hl hrm h0 rem
  go_wp2_with (fail)
  refine REM.out.mono ?_
  rintro e w3 ⟨rfl, hI, hK⟩
  have K3 := Aside0.mk ((Kp.of_below B2.out).trans hK)
  have I3 := Aside0.mk hI
  have S3 : Aside0 (w.heap.size < w3.heap.size) := ⟨Nat.lt_of_lt_of_le S2.out hK.size⟩
  have X3 := Aside0.mk ((hK.block _ S2.out (fun e => e.elim (fun e => Nat.lt_irrefl _ e.2) (Nat.lt_irrefl _))).trans X2.out)
  clear hI hK H2 X2 S2 B2 REM
  go_wp2_with (fail)
  refine (sync_calls I3.out (fun k hk => Or.inr (Nat.lt_of_lt_of_le S3.out hk))).mono ?_
  rintro e w4 ⟨rfl, hI, hK⟩
  have hsy := sync_up ⟨snF x y, snF x none, [cR], n + 1, false, f, r⟩ rfl
  rw [hsy.2]
  rw [hsy.1] at hI
  obtain ⟨n', hn'⟩ : ∃ n', n' = n + 1 := ⟨_, rfl⟩
  have KQ := Aside0.mk ((K3.out.trans hK).mono (ok' := ok) (fun k _ hk => (OKG.out k hk).1))
  have HQ : Aside0 (IsD w4 d (fun k => (ok k ∧ k < w.heap.size) ∨ w.heap.size < k) (idle x none n' f r false)) := ⟨by rw [hn']; exact hI⟩
  have XQ := Aside0.mk ((hK.block _ S3.out (fun e => e.elim (fun e => Nat.lt_irrefl _ e.2) (Nat.lt_irrefl _))).trans X3.out)
  have LK : Aside0 (loadK (idle x y n f r false) = (idle x none n' f r false, 0)) := ⟨by rw [LK0.out, hn']⟩
  clear hI hK hsy hn' hy K3 I3 S3 X3 LK0
  generalize w4 = wq at KQ HQ XQ ⊢
  have SQ : Aside0 (w.heap.size < wq.heap.size) := ⟨blk_lt XQ.out⟩
  go_wp2_with (fail)
  refine (read_calls HQ.out nS (by decide)).mono ?_
  rintro e w5 ⟨rfl, hb⟩
  have K5 := Aside0.mk (KQ.out.trans (Kp.of_below hb))
  have H5 := Aside0.mk (HQ.out.below hb)
  have X5 := Aside0.mk (blk_below XQ.out hb)
  clear hb HQ XQ KQ SQ
  have hrs := read_S x none n' f r
  rw [hrs.1, hrs.2]
  clear hrs
  cases x with
  | none =>
   have e0 := (blk_cell X5.out 0).trans rfl
   have e1 := (blk_cell X5.out 1).trans rfl
   have e2 := (blk_cell X5.out 2).trans rfl
   have e3 := (blk_cell X5.out 3).trans rfl
   have f0 := blk_frozen X5.out 0
   have f1 := blk_frozen X5.out 1
   have f2 := blk_frozen X5.out 2
   have f3 := blk_frozen X5.out 3
   simp only [Option.isSome_none, Bool.false_eq_true, if_false, Option.getD_none]
   go_wp2
   refine bodyPost_ret (results_ctt rfl _ _ w.heap.size 24 #[.int .i64 0, .int .i64 0, .slice none 0 0, .string ⟨#[]⟩] (0, 0) _ rfl (blk4 X5.out _ _ _ _) rfl rfl rfl) rfl ?_
   refine ⟨.slice none 0 0, ?_, ?_, ?_, ?_⟩
   ·rw [HR.out, LK.out]; rfl
   ·rw [HR.out, LK.out]; exact Kd.R_nil _ _ _ _ _
   ·rw [LK.out]; exact (H5.out.step (fun k hk _ => far4 _ _ _ _ _ _ k (OKG.out k hk).2)).mono (fun k hk => (OKG.out k hk).1)
   ·exact K5.out.trans (kp_far4 _ _ _ _ _ _ (HN.out _ (Nat.le_refl _)))
  | some F =>
   simp only [Option.isSome_some, if_true, Option.getD_some]
   have HFZ : Aside0 (F.size ≤ 140737488351232) := ⟨HX1.out⟩
   obtain ⟨u, hu1⟩ : ∃ u, u = unframe F 0 := ⟨_, rfl⟩
   have HU := Aside0.mk ((oct_unframe F (by have := HFZ.out; omega) 0 _ (Nat.lt_succ_self _)).trans (congrArg some hu1.symm))
   have HUZ : Aside0 (u.1.size ≤ 140737488351232) := ⟨by rw [hu1]; exact Nat.le_trans (unframe_size F 0) HFZ.out⟩
   obtain ⟨u1, u2, u3⟩ := u
   obtain ⟨s, hs1⟩ : ∃ s, s = decS 7 u1 := ⟨_, rfl⟩
   obtain ⟨k2, hk2⟩ := (dec_ev u1 HUZ.out).rounds
   have HD := Aside0.mk (hk2.trans (congrArg some hs1.symm))
   have HFR : Aside0 (fileR F = if u3 = 0 ∧ u2 = (F.size : Int) ∧ s.2.2.2.2 = 0 then ((s.1, s.2.1, s.2.2.1, s.2.2.2.1), true, 0) else noL 31) := ⟨by unfold fileR; simp only; rw [← hu1, ← hs1]⟩
   obtain ⟨s1, s2, s3, s4, s5⟩ := s
   clear hu1 hs1 hk2 HX1
   go_wp2_with (fail)
   refine (frame_Unframe.calls _ F 0 u1 u2 u3 _ HU.out).mono ?_
   rintro e w6 ⟨rfl, ⟨⟨m6, rfl⟩⟩⟩
   have K6 := Aside0.mk (K5.out.drewN m6)
   have H6 := Aside0.mk (H5.out.step (W' := w5.drewN m6) (fun _ _ _ => rfl))
   have X6 := Aside0.mk (blk_drewN X5.out m6)
   generalize w5.drewN m6 = w6 at K6 H6 X6 ⊢
   clear X5 H5 K5
   go_wp2_with (fail)
   refine (shot_Decode.calls k2 u1 s1 s2 s3 s4 s5 _ HD.out).mono ?_
   rintro e w7 ⟨v, rfl, hRow, hb⟩
   have K7 := Aside0.mk (K6.out.trans (Kp.of_below hb))
   have H7 := Aside0.mk (H6.out.below hb)
   have X7 := Aside0.mk (blk_below X6.out hb)
   have S7 : Aside0 (w.heap.size < w6.heap.size) := ⟨blk_lt X6.out⟩
   have R7 := Aside0.mk hRow
   obtain ⟨As, cs, rfl, hlcs, hCs⟩ := Kd.R_reads hRow
   have S8 : Aside0 (w.heap.size < w7.heap.size) := ⟨blk_lt X7.out⟩
   clear hRow hb K6 H6 X6
   have HX8 := Aside0.mk (heap_alloc_new w7 (.cells #[.int .i64 0, .int .i64 0, .slice none 0 0, .string ⟨#[]⟩] 24 (0, 0)))
   have g0 := (blk_cell HX8.out 0).trans rfl
   have g1 := (blk_cell HX8.out 1).trans rfl
   have g2 := (blk_cell HX8.out 2).trans rfl
   have g3 := (blk_cell HX8.out 3).trans rfl
   have f0 := blk_frozen HX8.out 0
   have f1 := blk_frozen HX8.out 1
   have f2 := blk_frozen HX8.out 2
   have f3 := blk_frozen HX8.out 3
   have b8 : Below w7.heap.size w7 (w7.alloc (.cells #[.int .i64 s1, .int .i64 s2, .slice As s3.length cs, .string s4] 24 (0, 0))) := below_alloc (Below.refl _ _) _
   have K8 := Aside0.mk (K7.out.trans (Kp.of_below b8))
   have H8 := Aside0.mk (H7.out.below b8)
   have X8 := Aside0.mk (blk_below X7.out b8)
   have R8 := Aside0.mk (Kd.R_step (Kd.R_bound R7.out) (fun k hk hlt => b8.block k hlt))
   have Y8 := Aside0.mk (heap_alloc_new w7 (.cells #[.int .i64 s1, .int .i64 s2, .slice As s3.length cs, .string s4] 24 (0, 0)))
   clear b8 K7 H7 X7 R7 hCs HX8
   have e0 := (blk_cell X8.out 0).trans rfl
   have e1 := (blk_cell X8.out 1).trans rfl
   have e2 := (blk_cell X8.out 2).trans rfl
   have e3 := (blk_cell X8.out 3).trans rfl
   have k0 := blk_frozen X8.out 0
   have k1 := blk_frozen X8.out 1
   have k2_ := blk_frozen X8.out 2
   have k3 := blk_frozen X8.out 3
   have j0 := (blk_cell Y8.out 0).trans rfl
   have j1 := (blk_cell Y8.out 1).trans rfl
   have j2 := (blk_cell Y8.out 2).trans rfl
   have j3 := (blk_cell Y8.out 3).trans rfl
   by_cases hok : u3 = 0 ∧ u2 = (F.size : Int) ∧ s5 = 0
   ·obtain ⟨rfl, rfl, rfl⟩ := hok
    rw [if_pos ⟨rfl, rfl, rfl⟩] at HFR
    have c2 : ((F.size : Int) != (F.size : Int)) = false := by simp
    go_wp2
    refine bodyPost_ret (results_ctt rfl _ _ w.heap.size 24 #[.int .i64 s1, .int .i64 s2, .slice As s3.length cs, .string s4] (0, 0) _ rfl (blk4 X8.out _ _ _ _) rfl rfl rfl) rfl ?_
    refine ⟨.slice As s3.length cs, ?_, ?_, ?_, ?_⟩
    ·rw [HR.out, LK.out]; show _ = Ending.returned (.tuple #[.agg #[.int .i64 (fileR F).1.1, .int .i64 (fileR F).1.2.1, _, .string (fileR F).1.2.2.2], .bool (fileR F).2.1, .int .i64 (fileR F).2.2]); rw [HFR.out]; rfl
    ·rw [HR.out, LK.out]
     show Kd.R (Kd.int .i64) 3 _ _ _ _ (fileR F).1.2.2.1
     rw [HFR.out]
     exact Kd.R_mono (Kd.R_lower (Kd.R_step (Kd.R_bound R8.out) (fun k hk _ => far4 _ _ _ _ _ _ k (by have := hk.2.1; have := S7.out; omega))) (Nat.le_of_lt S7.out)) (fun k hk => by have := hk.2.1; have := S7.out; omega)
    ·rw [LK.out]; exact (H8.out.step (fun k hk _ => far4 _ _ _ _ _ _ k (OKG.out k hk).2)).mono (fun k hk => (OKG.out k hk).1)
    ·exact K8.out.trans (kp_far4 _ _ _ _ _ _ (HN.out _ (Nat.le_refl _)))
   ·rw [if_neg hok] at HFR
    have hfin : ∀ (w' : World), w' = (((((w7.alloc (.cells #[.int .i64 s1, .int .i64 s2, .slice As s3.length cs, .string s4] 24 (0, 0))).setCell ⟨w.heap.size, 0, none⟩ (.int .i64 0)).setCell ⟨w.heap.size, 1, none⟩ (.int .i64 0)).setCell ⟨w.heap.size, 2, none⟩ (.slice none 0 0)).setCell ⟨w.heap.size, 3, none⟩ (.string ⟨#[]⟩)) → Kd.R (Kd.int .i64) 3 w' w.heap.size (fun k => w.heap.size ≤ k) (.slice none 0 0) R.1.2.2.1 ∧ IsD w' d ok (loadK (idle (some F) y n f r false)).1 ∧ Kp ok w w' := fun w' hw => by
     subst hw
     refine ⟨?_, ?_, ?_⟩
     ·rw [HR.out, LK.out]; show Kd.R (Kd.int .i64) 3 _ _ _ _ (fileR F).1.2.2.1; rw [HFR.out]; exact Kd.R_nil _ _ _ _ _
     ·rw [LK.out]; exact (H8.out.step (fun k hk _ => far4 _ _ _ _ _ _ k (OKG.out k hk).2)).mono (fun k hk => (OKG.out k hk).1)
     ·exact K8.out.trans (kp_far4 _ _ _ _ _ _ (HN.out _ (Nat.le_refl _)))
    have hR2 : R = noL 31 := by rw [HR.out, LK.out]; exact HFR.out
    have HFIN := Aside0.mk hfin
    have HR2 := Aside0.mk hR2
    have HOK := Aside0.mk hok
    clear hfin hR2 hok
    have d1 : u3 = 0 ∨ (u3 != 0) = true := (Decidable.em (u3 = 0)).imp id (fun h => bne_iff_ne.mpr h)
    have d2 : u2 = (F.size : Int) ∨ (u2 != (F.size : Int)) = true := (Decidable.em _).imp id (fun h => bne_iff_ne.mpr h)
    have d3 : s5 = 0 ∨ (s5 != 0) = true := (Decidable.em _).imp id (fun h => bne_iff_ne.mpr h)
    rcases d1 with rfl | d1
    ·rcases d2 with rfl | d2
     ·rcases d3 with rfl | d3
      ·exact absurd ⟨rfl, rfl, rfl⟩ HOK.out
      ·have c2 : ((F.size : Int) != (F.size : Int)) = false := by simp
       go_wp2
       refine bodyPost_ret (results_ctt rfl _ _ w.heap.size 24 #[.int .i64 0, .int .i64 0, .slice none 0 0, .string ⟨#[]⟩] (0, 0) _ rfl (blk4 X8.out _ _ _ _) rfl rfl rfl) rfl ?_
       exact ⟨.slice none 0 0, by rw [HR2.out]; rfl, HFIN.out _ rfl⟩
     ·go_wp2
      refine bodyPost_ret (results_ctt rfl _ _ w.heap.size 24 #[.int .i64 0, .int .i64 0, .slice none 0 0, .string ⟨#[]⟩] (0, 0) _ rfl (blk4 X8.out _ _ _ _) rfl rfl rfl) rfl ?_
      exact ⟨.slice none 0 0, by rw [HR2.out]; rfl, HFIN.out _ rfl⟩
    ·go_wp2
     refine bodyPost_ret (results_ctt rfl _ _ w.heap.size 24 #[.int .i64 0, .int .i64 0, .slice none 0 0, .string ⟨#[]⟩] (0, 0) _ rfl (blk4 X8.out _ _ _ _) rfl rfl rfl) rfl ?_
     exact ⟨.slice none 0 0, by rw [HR2.out]; rfl, HFIN.out _ rfl⟩
 ·rw [h0]
  have rem := remove_calls (ok := fun k => (ok k ∧ k < w.heap.size) ∨ w.heap.size < k) H2.out (fun k hk => Or.inr (Nat.lt_of_lt_of_le S2.out hk)) nN (by decide) (fun _ _ _ => can_idle (by have := HNN.out; omega) HF.out (okC_R (by have := HZ.out; omega)))
  rw [hrm] at rem
  have REM := Aside0.mk rem
  have LK := Aside0.mk hl
  clear hl hrm h0 rem hyy hi hy
  go_wp2_with (fail)
  refine REM.out.mono ?_
  rintro e w3 ⟨rfl, hI, hK⟩
  have K3 := Aside0.mk (((Kp.of_below B2.out).trans hK).mono (ok' := ok) (fun k _ hk => (OKG.out k hk).1))
  have I3 := Aside0.mk hI
  have X3 := Aside0.mk ((hK.block _ S2.out (fun e => e.elim (fun e => Nat.lt_irrefl _ e.2) (Nat.lt_irrefl _))).trans X2.out)
  clear hI hK H2 X2 S2 B2 REM
  have e0 := (blk_cell X3.out 0).trans rfl
  have e1 := (blk_cell X3.out 1).trans rfl
  have e2 := (blk_cell X3.out 2).trans rfl
  have e3 := (blk_cell X3.out 3).trans rfl
  have f0 := blk_frozen X3.out 0
  have f1 := blk_frozen X3.out 1
  have f2 := blk_frozen X3.out 2
  have f3 := blk_frozen X3.out 3
  go_wp2
  refine bodyPost_ret (results_ctt rfl _ _ w.heap.size 24 #[.int .i64 0, .int .i64 0, .slice none 0 0, .string ⟨#[]⟩] (0, 0) _ rfl (blk4 X3.out _ _ _ _) rfl rfl rfl) rfl ?_
  have e21 : ¬ (21 : Int) = 0 := by decide
  have hR2 : R = noL 21 := by rw [HR.out, LK.out]; exact if_neg e21
  refine ⟨.slice none 0 0, ?_, ?_, ?_, ?_⟩
  ·rw [hR2]; rfl
  ·rw [hR2]; exact Kd.R_nil _ _ _ _ _
  ·rw [LK.out]; exact (I3.out.step (fun k hk _ => far4 _ _ _ _ _ _ k (OKG.out k hk).2)).mono (fun k hk => (OKG.out k hk).1)
  ·exact K3.out.trans (kp_far4 _ _ _ _ _ _ (HN.out _ (Nat.le_refl _)))
end Go.Proofs.Ythjfofgcikfepaa.Q
