/- The document's disk: files, changes. -/
import Derived.Outline
import Derived.Test.YtabngibognlmoaaDk5
import Derived.Test.YtabngibognlmoaaQx10
import Derived.Test.YtabngibognlmoaaQx12
import Derived.Test.YtabngibognlmoaaQx13
import Derived.Test.YtabngibognlmoaaQx16
namespace Go.Proofs.Ytabngibognlmoaa.Q
open Go.Maps Go.WideShapes Go.WideMaps Go.RowKit Go.Proofs.YtabngibognlmoaaW.PrintWords Go.Proofs.YtabngibognlmoaaW.PrintLast Go.Proofs.YtabngibognlmoaaW.PrintMore
set_option linter.unusedVariables false
set_option linter.unusedSimpArgs false
set_option maxHeartbeats 10000000
set_option maxRecDepth 100000
/-! the document's Name -/
theorem name_ref_go (s : ByteArray) (hs : s.size ≤ 9223372036854775807) : ∀ (d i : Nat), i + d = s.size → Ev (fun k => stowageref04_Name.l0 k s (i : Int)) ((List.range' i d).all (fun j => chN (bt s (j : Nat))))
 | 0, i, h => by
  refine Ev.step (f := fun _ => some true) (fun k => ?_) ⟨0, fun _ _ => by simp⟩
  rw [stowageref04_Name.l0, if_neg (by omega)]
 | d + 1, i, h => by
  refine Ev.step (f := fun k => if chN (bt s i) = true then stowageref04_Name.l0 k s ((i + 1 : Nat) : Int) else some false) (fun k => ?_) ?_
  ·rw [stowageref04_Name.l0, if_pos (by omega), if_pos (by omega), w1n i (by omega)]
   generalize bt s i = b
   have dot : (if b = 46 then stowageref04_Name.l0 k s ((i + 1 : Nat) : Int) else if b = 45 then stowageref04_Name.l0 k s ((i + 1 : Nat) : Int) else some false) = if b = 46 ∨ b = 45 then stowageref04_Name.l0 k s ((i + 1 : Nat) : Int) else some false := by
    by_cases h1 : b = 46
    ·rw [if_pos h1, if_pos (Or.inl h1)]
    ·by_cases h2 : b = 45
     ·rw [if_neg h1, if_pos h2, if_pos (Or.inr h2)]
     ·rw [if_neg h1, if_neg h2, if_neg (fun e => e.elim h1 h2)]
   rw [dot]
   unfold chN
   by_cases h3 : b = 46 ∨ b = 45
   ·have e1 : ¬ b ≥ 97 := by omega
    have e2 : ¬ b ≥ 48 := by omega
    rw [if_neg e1, if_neg e2, if_pos h3, if_pos (by rw [decide_eq_true_iff]; omega)]
   ·simp only [if_neg h3]
    by_cases h1 : b ≥ 97
    ·rw [if_pos h1, if_pos (by omega)]
     by_cases h2 : b ≤ 122
     ·rw [if_pos h2, if_pos (by rw [decide_eq_true_iff]; omega)]
     ·rw [if_neg h2, if_neg (by omega), if_neg (by rw [decide_eq_true_iff]; omega)]
    ·rw [if_neg h1]
     by_cases h2 : b ≥ 48
     ·rw [if_pos h2]
      by_cases h4 : b ≤ 57
      ·rw [if_pos h4, if_pos (by rw [decide_eq_true_iff]; omega)]
      ·rw [if_neg h4, if_neg (by rw [decide_eq_true_iff]; omega)]
     ·rw [if_neg h2, if_neg (by rw [decide_eq_true_iff]; omega)]
  ·rw [List.range'_succ, List.all_cons]
   refine Ev.ite (fun hx => ?_) (fun hx => ?_)
   ·rw [hx, Bool.true_and]
    exact name_ref_go s hs d (i + 1) (by omega)
   ·rw [Bool.not_eq_true] at hx
    rw [hx, Bool.false_and]
    exact Ev.now _
theorem name_ref (s : ByteArray) (hs : s.size ≤ 9223372036854775807) : Ev (fun k => stowageref04_Name.f k s) (nameS s) := by
 have hl : s.toList = [] ↔ s.size = 0 := by
  rw [ByteArray.toList_eq]
  obtain ⟨a⟩ := s
  show a.toList = [] ↔ a.size = 0
  rw [← Array.length_toList]
  cases a.toList <;> simp
 have hj : ∀ x : Bool, Ev (fun k => stowageref04_Name.j0 k s x) (if x = true then false else (List.range' 0 s.size).all (fun j => chN (bt s (j : Nat)))) := by
  intro x
  cases x with
  | true => exact Ev.step (f := fun _ => some false) (fun k => by rw [stowageref04_Name.j0, if_pos rfl]) ⟨0, fun _ _ => by simp⟩
  | false => exact Ev.step (f := fun k => stowageref04_Name.l0 k s 0) (fun k => by rw [stowageref04_Name.j0, if_neg (by simp)]) (name_ref_go s hs s.size 0 (by omega))
 unfold nameS
 by_cases h0 : s.size = 0
 ·have h1 := Ev.congr (fun k => (if_pos (hl.2 h0) : stowageref04_Name.f k s = stowageref04_Name.j0 k s true)) (hj true)
  rw [decide_eq_false (by omega), Bool.and_false]
  exact h1
 ·by_cases h2 : s.size ≤ 80
  ·have h1 := Ev.congr (fun k => show stowageref04_Name.f k s = stowageref04_Name.j0 k s false by rw [stowageref04_Name.f, if_neg (fun e => h0 (hl.1 e)), decide_eq_false (by omega)]) (hj false)
   rw [if_neg (by simp)] at h1
   rw [decide_eq_true (by omega), Bool.and_true]
   exact h1
  ·have h1 := Ev.congr (fun k => show stowageref04_Name.f k s = stowageref04_Name.j0 k s true by rw [stowageref04_Name.f, if_neg (fun e => h0 (hl.1 e)), decide_eq_true (by omega)]) (hj true)
   rw [if_pos rfl] at h1
   rw [decide_eq_false (by omega), Bool.and_false]
   exact h1
/-! a disk behind any acts: with falls, down or up -/
def sumS (ws : List Chg) : Nat := (ws.map fun c => c.s.size).sum
theorem sumS_snoc (ws : List Chg) (c : Chg) : sumS (ws ++ [c]) = sumS ws + c.s.size := by
 unfold sumS
 rw [List.map_append, List.sum_append]
 simp
theorem sumS_take : ∀ (ws : List Chg) (n : Nat), sumS (ws.take n) ≤ sumS ws
 | [], n => by rw [List.take_nil]; exact Nat.le_refl _
 | c :: r, 0 => by rw [List.take_zero]; exact Nat.zero_le _
 | c :: r, n + 1 => by
  have := sumS_take r n
  unfold sumS at *
  rw [List.take_succ_cons, List.map_cons, List.map_cons, List.sum_cons, List.sum_cons]
  omega
theorem sumS_at : ∀ (ws : List Chg) (n : Nat) (c : Chg), ws[n]? = some c → sumS (ws.take n) + c.s.size ≤ sumS ws
 | [], n, c, h => by simp at h
 | a :: r, 0, c, h => by
  simp at h
  subst h
  unfold sumS
  rw [List.take_zero, List.map_cons, List.sum_cons]
  simp
 | a :: r, n + 1, c, h => by
  have := sumS_at r n c (by simpa using h)
  unfold sumS at *
  rw [List.take_succ_cons, List.map_cons, List.map_cons, List.sum_cons, List.sum_cons]
  omega
theorem fold_tot : ∀ (ws : List Chg) (l : Fs), (∀ c ∈ ws, NmC c) → totF (ws.foldl doC l) ≤ totF l + sumS ws
 | [], l, _ => by simp [sumS]
 | c :: r, l, h => by
  have h1 := fold_tot r (doC l c) (fun x hx => h x (List.mem_cons_of_mem _ hx))
  have h2 := (doC_tot l c (fun e => ((h c (List.mem_cons_self ..)).dest e).2)).1
  rw [List.foldl_cons]
  unfold sumS at *
  rw [List.map_cons, List.sum_cons]
  omega
theorem fold_len : ∀ (ws : List Chg) (l : Fs), (ws.foldl doC l).length ≤ l.length + ws.length
 | [], l => Nat.le_refl _
 | c :: r, l => by
  have h1 := fold_len r (doC l c)
  have h2 := doC_len l c
  rw [List.foldl_cons, List.length_cons]
  omega
theorem fold_rises : ∀ (ws : List Chg) (l : Fs), Rises l → Rises (ws.foldl doC l)
 | [], l, h => h
 | c :: r, l, h => fold_rises r (doC l c) (doC_rises c h)
theorem fold_named : ∀ (ws : List Chg) (l : Fs), Named l → (∀ c ∈ ws, NmC c) → Named (ws.foldl doC l)
 | [], l, h, _ => h
 | c :: r, l, h, hn => fold_named r (doC l c) (doC_named h (hn c (List.mem_cons_self ..))) (fun x hx => hn x (List.mem_cons_of_mem _ hx))
structure GP (i : Nat) (st : DK) : Prop where
 now : st.now = st.wait.foldl doC st.sure
 val : Valid st.sure st.wait
 ris : Rises st.sure
 named : Named st.sure
 nms : ∀ c ∈ st.wait, NmC c
 tot : totF st.sure + sumS st.wait ≤ i * BM
 len : st.sure.length + st.wait.length ≤ i
 cnt : 0 ≤ st.count ∧ st.count ≤ i
 fal : st.falls.length * 24 ≤ 140737488351232
 dn : st.down = true → st.wait = []
theorem GP.mono {i j : Nat} {st : DK} (h : GP i st) (hij : i ≤ j) : GP j st :=
 ⟨h.now, h.val, h.ris, h.named, h.nms, Nat.le_trans h.tot (Nat.mul_le_mul_right _ hij), Nat.le_trans h.len hij, ⟨h.cnt.1, Int.le_trans h.cnt.2 (by omega)⟩, h.fal, h.dn⟩
theorem GP.nowTot {i : Nat} {st : DK} (h : GP i st) : totF st.now ≤ i * BM := by
 rw [h.now]
 exact Nat.le_trans (fold_tot _ _ h.nms) h.tot
theorem GP.nowLen {i : Nat} {st : DK} (h : GP i st) : st.now.length ≤ i := by
 rw [h.now]
 exact Nat.le_trans (fold_len _ _) h.len
theorem GP.nowRis {i : Nat} {st : DK} (h : GP i st) : Rises st.now := by
 rw [h.now]
 exact fold_rises _ _ h.ris
theorem GP.nowNamed {i : Nat} {st : DK} (h : GP i st) : Named st.now := by
 rw [h.now]
 exact fold_named _ _ h.named h.nms
theorem GP.small {i : Nat} {st : DK} (h : GP i st) (hi : i ≤ 1000) : totF st.now ≤ 4000000000000000000 := by
 have h1 := h.nowTot
 have h3 : i * BM ≤ 1000 * BM := Nat.mul_le_mul_right _ hi
 simp only [BM] at *
 omega
theorem GP.okc {i : Nat} {st : DK} (h : GP i st) (hi : i ≤ 1000) {k : Int} {a b s : ByteArray} {n : Int} (hk : 0 ≤ k ∧ k ≤ 4) (ha : a.size ≤ BM) (hb : b.size ≤ BM) (hs : s.size ≤ BM) (hc : k = 4 → 0 ≤ n ∧ n ≤ ((getF st.now a).size : Int)) : OkC st.now ⟨k, a, b, s, n⟩ := by
 have h1 := h.nowTot
 have h2 := h.nowLen
 have h3 : i * BM ≤ 1000 * BM := Nat.mul_le_mul_right _ hi
 refine ⟨hk, Nat.le_trans ha (by decide), Nat.le_trans hb (by decide), by omega, ?_, hc⟩
 show totF st.now + s.size ≤ _
 simp only [BM] at *
 omega
theorem GP.can {i : Nat} {st : DK} (h : GP i st) (hi : i ≤ 1000) {c : Chg} (hok : OkC st.now c) : CanC st c := by
 refine ⟨hok, ?_, ?_, by have := h.fal; omega, Valid.snoc h.val (by rw [← h.now]; exact hok)⟩
 ·have := h.len; omega
 ·have := h.cnt; omega
theorem GP.add {i : Nat} {st : DK} (h : GP i st) (hup : st.down = false) {c : Chg} (hok : OkC st.now c) (hn : NmC c) (hs : c.s.size ≤ BM) : GP (i + 1) (addK st c) := by
 refine ⟨?_, ?_, h.ris, h.named, ?_, ?_, ?_, ?_, h.fal, ?_⟩
 ·show doC st.now c = (st.wait ++ [c]).foldl doC st.sure
  rw [List.foldl_append, ← h.now]
  rfl
 ·exact Valid.snoc h.val (by show OkC (st.wait.foldl doC st.sure) c; rw [← h.now]; exact hok)
 ·intro x hx
  rcases List.mem_append.1 (show x ∈ st.wait ++ [c] from hx) with hx | hx
  ·exact h.nms x hx
  ·rw [List.mem_singleton] at hx; rw [hx]; exact hn
 ·have h2 := h.tot
  show totF st.sure + sumS (st.wait ++ [c]) ≤ _
  rw [sumS_snoc, Nat.add_mul]
  omega
 ·have h2 := h.len
  show st.sure.length + (st.wait ++ [c]).length ≤ _
  rw [List.length_append]
  simp only [List.length_cons, List.length_nil]
  omega
 ·have := h.cnt
  show 0 ≤ st.count + 1 ∧ st.count + 1 ≤ _
  omega
 ·intro e
  have : st.down = true := e
  rw [hup] at this
  cases this
/-- what a fall leaves -/
theorem fail_left (sure : Fs) (wait : List Chg) (st : DK) (hs : st.sure = sure) (hw : st.wait = wait) (keep torn : Int) (i : Nat) (ris : Rises sure) (named : Named sure) (nms : ∀ c ∈ wait, NmC c)
  (tot : totF sure + sumS wait ≤ i * BM) (len : sure.length + wait.length ≤ i) :
  Rises (failF st keep torn) ∧ Named (failF st keep torn) ∧ totF (failF st keep torn) ≤ i * BM ∧ (failF st keep torn).length ≤ i := by
 subst hs hw
 obtain ⟨n, hn⟩ : ∃ n, n = clampK keep st.wait.length := ⟨_, rfl⟩
 have nt : ∀ c ∈ st.wait.take n, NmC c := fun c hc => nms c (List.mem_of_mem_take hc)
 have r1 := fold_rises (st.wait.take n) st.sure ris
 have r2 := fold_named (st.wait.take n) st.sure named nt
 have r3 := fold_tot (st.wait.take n) st.sure nt
 have r4 := fold_len (st.wait.take n) st.sure
 have r5 := sumS_take st.wait n
 have r6 : (st.wait.take n).length ≤ st.wait.length := by rw [List.length_take]; omega
 cases hc : st.wait[n]? with
 | none =>
  rw [failF_none hn (Or.inl (List.getElem?_eq_none_iff.1 hc))]
  exact ⟨r1, r2, by omega, by omega⟩
 | some c =>
  by_cases ht : 0 < torn ∧ (c.kind = 0 ∨ c.kind = 1)
  ·rw [failF_torn hn hc ht.1 ht.2]
   have hcw : c ∈ st.wait := List.mem_of_getElem? hc
   have hm : NmC (tornC c torn) := ⟨(nms c hcw).name, (nms c hcw).dest⟩
   have r7 := sumS_at st.wait n c hc
   have r8 := (doC_tot ((st.wait.take n).foldl doC st.sure) (tornC c torn) (fun e => (hm.dest e).2)).1
   have r9 := doC_len ((st.wait.take n).foldl doC st.sure) (tornC c torn)
   have r10 : (tornC c torn).s.size ≤ c.s.size := by
    unfold tornC
    simp only [ByteArray.size_extract]
    omega
   have r11 : n < st.wait.length := (List.getElem?_eq_some_iff.1 hc).1
   have r12 : (st.wait.take n).length = n := by rw [List.length_take]; omega
   exact ⟨doC_rises _ r1, doC_named r2 hm, by omega, by omega⟩
  ·rw [failF_other hn hc ht]
   exact ⟨r1, r2, by omega, by omega⟩
theorem GP.fail {i : Nat} {st : DK} (h : GP i st) (keep torn : Int) : GP i (failK st keep torn) := by
 unfold failK
 split
 ·exact h
 obtain ⟨h1, h2, h3, h4⟩ := fail_left st.sure st.wait st rfl rfl keep torn i h.ris h.named h.nms h.tot h.len
 exact ⟨rfl, trivial, h1, h2, (fun c hc => by cases hc), by show _ + 0 ≤ _; exact h3, by show _ + 0 ≤ _; exact h4, h.cnt, h.fal, fun _ => rfl⟩
theorem GP.change {i : Nat} {st : DK} (h : GP i st) (hup : st.down = false) {c : Chg} (hok : OkC st.now c) (hn : NmC c) (hs : c.s.size ≤ BM) : GP (i + 1) (changeK st c).1 := by
 have ha := h.add hup hok hn hs
 unfold changeK
 cases hitI st with
 | none => exact ha
 | some j =>
  show GP (i + 1) (failK { st with wait := st.wait ++ [c], falls := st.falls.eraseIdx j } _ _)
  unfold failK
  rw [if_neg (show ¬ (st.down = true) by rw [hup]; simp)]
  obtain ⟨h1, h2, h3, h4⟩ := fail_left st.sure (st.wait ++ [c]) { st with wait := st.wait ++ [c], falls := st.falls.eraseIdx j } rfl rfl (st.falls.getD j zF).keep (st.falls.getD j zF).torn (i + 1) h.ris h.named ha.nms ha.tot ha.len
  refine ⟨rfl, trivial, h1, h2, (fun c hc => by cases hc), by show _ + 0 ≤ _; exact h3, by show _ + 0 ≤ _; exact h4, ⟨h.cnt.1, by have := h.cnt.2; show st.count ≤ _; omega⟩, ?_, fun _ => rfl⟩
  show (st.falls.eraseIdx j).length * 24 ≤ _
  have := List.length_eraseIdx_le (l := st.falls) (i := j)
  have := h.fal
  omega
theorem gp_new : GP 0 newK := ⟨rfl, trivial, List.Pairwise.nil, (fun p hp => by cases hp), (fun p hp => by cases hp), Nat.le_refl _, Nat.le_refl _, ⟨Int.le_refl _, Int.le_refl _⟩, Nat.zero_le _, fun _ => rfl⟩
theorem GP.sync {i : Nat} {st : DK} (h : GP i st) : GP i (syncK st) := by
 unfold syncK
 split
 ·exact h
 ·exact ⟨rfl, trivial, h.nowRis, h.nowNamed, (fun c hc => by cases hc), by show _ + 0 ≤ _; exact h.nowTot, by show _ + 0 ≤ _; exact h.nowLen, h.cnt, h.fal, fun _ => rfl⟩
theorem GP.room {i : Nat} {st : DK} (h : GP i st) (n : Int) : GP i { st with room := n } := ⟨h.now, h.val, h.ris, h.named, h.nms, h.tot, h.len, h.cnt, h.fal, h.dn⟩
theorem GP.plan {i : Nat} {st : DK} (h : GP i st) (l : List Fal) (hl : l.length * 24 ≤ 140737488351232) : GP i { st with falls := l } := ⟨h.now, h.val, h.ris, h.named, h.nms, h.tot, h.len, h.cnt, hl, h.dn⟩
theorem GP.up {i : Nat} {st : DK} (h : GP i st) : GP i { st with down := false } := ⟨h.now, h.val, h.ris, h.named, h.nms, h.tot, h.len, h.cnt, h.fal, fun e => by cases e⟩
theorem GP.call {i : Nat} {st : DK} (h : GP i st) (hi : i ≤ 1000) {k : Int} {a b s : ByteArray} {n : Int} (hk : 0 ≤ k ∧ k ≤ 4) (ha : a.size ≤ BM) (hb : b.size ≤ BM) (hs : s.size ≤ BM) : GP (i + 1) (callK st k a b s n).1 := by
 have hz : (⟨#[]⟩ : ByteArray).size ≤ BM := by decide
 have hm := h.mono (Nat.le_succ i)
 unfold callK
 by_cases h0 : k = 0
 ·subst h0
  rw [if_pos rfl]
  unfold appendK
  split
  ·rename_i h1
   split
   ·exact hm
   ·exact h.change (askE_one h1).1 (h.okc hi (by decide) ha hz hs (fun e => absurd e (by decide))) ⟨(askE_one h1).2, (fun e => absurd (show (0 : Int) = 2 from e) (by decide))⟩ hs
  ·exact hm
 rw [if_neg h0]
 by_cases h0' : k = 1
 ·subst h0'
  rw [if_pos rfl]
  unfold writeK
  split
  ·rename_i h1
   split
   ·exact hm
   ·exact h.change (askE_one h1).1 (h.okc hi (by decide) ha hz hs (fun e => absurd e (by decide))) ⟨(askE_one h1).2, (fun e => absurd (show (1 : Int) = 2 from e) (by decide))⟩ hs
  ·exact hm
 rw [if_neg h0']
 by_cases h2 : k = 2
 ·subst h2
  rw [if_pos rfl]
  unfold moveK
  split
  ·rename_i h1
   split
   ·split
    ·exact hm
    ·rename_i h4
     exact h.change (askE_two h1).1 (h.okc hi (by decide) ha hb hz (fun e => absurd e (by decide))) ⟨(askE_two h1).2.1, fun _ => ⟨(askE_two h1).2.2, h4⟩⟩ hz
   ·exact hm
  ·exact hm
 rw [if_neg h2]
 by_cases h3 : k = 3
 ·subst h3
  rw [if_pos rfl]
  unfold removeK
  split
  ·rename_i h1
   split
   ·exact h.change (askE_one h1).1 (h.okc hi (by decide) ha hz hz (fun e => absurd e (by decide))) ⟨(askE_one h1).2, (fun e => absurd (show (3 : Int) = 2 from e) (by decide))⟩ hz
   ·exact hm
  ·exact hm
 rw [if_neg h3]
 obtain rfl : k = 4 := by omega
 unfold cutK
 split
 ·rename_i h1
  split
  ·split
   ·rename_i h4
    exact h.change (askE_one h1).1 (h.okc hi (by decide) ha hz hz (fun _ => h4)) ⟨(askE_one h1).2, (fun e => absurd (show (4 : Int) = 2 from e) (by decide))⟩ hz
   ·exact hm
  ·exact hm
 ·exact hm
/-! the document's files: Find, with, without, Do -/
theorem less_is : ∀ a b : List UInt8, Op.bytesLess a b = bytesBefore a b
 | [], [] => rfl
 | [], _ :: _ => rfl
 | _ :: _, [] => rfl
 | x :: a, y :: b => by
  show (decide (x < y) || (x == y && Op.bytesLess a b)) = (decide (x < y) || (x == y && bytesBefore a b))
  rw [less_is a b]
theorem less_ltN (a b : ByteArray) : Op.bytesLess a.toList b.toList = ltN a b := by
 rw [less_is, ByteArray.toList_eq, ByteArray.toList_eq]; rfl
theorem eq_sameN (a b : ByteArray) : (a.toList == b.toList) = sameN a b := by
 rw [ByteArray.toList_eq, ByteArray.toList_eq]; rfl
theorem eq_iffN (a b : ByteArray) : a.toList = b.toList ↔ a = b := by
 rw [ByteArray.toList_eq, ByteArray.toList_eq]
 exact ⟨ba_inj, fun h => by rw [h]⟩
theorem filesL_len (l : Fs) : (filesL l).length = l.length := List.length_map ..
theorem filesL_app (a b : Fs) : filesL (a ++ b) = filesL a ++ filesL b := List.map_append ..
theorem filesL_take (l : Fs) (n : Nat) : (filesL l).take n = filesL (l.take n) := by unfold filesL; rw [List.map_take]
theorem filesL_drop (l : Fs) (n : Nat) : (filesL l).drop n = filesL (l.drop n) := by unfold filesL; rw [List.map_drop]
theorem rd_files {l : Fs} {i : Nat} {p : ByteArray × ByteArray} (h : l[i]? = some p) : rd_T48 (filesL l) (i : Int) = ⟨p.1, p.2⟩ := by
 unfold rd_T48 filesL
 rw [Int.toNat_natCast, List.getD_eq_getElem?_getD, List.getElem?_map, h]
 rfl
def posF : Fs → ByteArray → Nat
 | [], _ => 0
 | p :: r, n => if ltN p.1 n = true then posF r n + 1 else 0
theorem posF_le : ∀ (l : Fs) (n : ByteArray), posF l n ≤ l.length
 | [], _ => Nat.le_refl _
 | p :: r, n => by
  rw [posF]
  split
  ·have := posF_le r n
   rw [List.length_cons]; omega
  ·exact Nat.zero_le _
theorem hasF_cons (p : ByteArray × ByteArray) (r : Fs) (n : ByteArray) : hasF (p :: r) n = (sameN p.1 n || hasF r n) := rfl
theorem sameN_ne {a b : ByteArray} (h : a ≠ b) : sameN a b = false := by rw [← Bool.not_eq_true, sameN_iff]; exact h
theorem hasF_above {l : Fs} {n : ByteArray} (h : ∀ p ∈ l, ltN n p.1 = true) : hasF l n = false := by
 rw [← Bool.not_eq_true, hasF_iff]
 rintro ⟨p, hp, e⟩
 have := h p hp
 rw [e, ltN_irrefl] at this
 cases this
theorem delF_above {l : Fs} {n : ByteArray} (h : ∀ p ∈ l, ltN n p.1 = true) : delF l n = l := by
 unfold delF
 rw [List.filter_eq_self]
 intro p hp
 rw [sameN_ne (fun e => ltN_ne (h p hp) e.symm)]
 rfl
/-- the place of a name, where the first file is not before it -/
theorem first_not {p : ByteArray × ByteArray} {r : Fs} {n : ByteArray} (hr : Rises (p :: r)) (h : ¬ ltN p.1 n = true) : (p.1 = n ∧ ∀ q ∈ r, ltN n q.1 = true) ∨ (ltN n p.1 = true ∧ p.1 ≠ n ∧ ∀ q ∈ r, ltN n q.1 = true) := by
 have h1 := (List.pairwise_cons.1 hr).1
 by_cases e : p.1 = n
 ·exact Or.inl ⟨e, fun q hq => by rw [← e]; exact h1 q hq⟩
 ·have h2 : ltN n p.1 = true := (ltN_total e).resolve_left h
  exact Or.inr ⟨h2, e, fun q hq => ltN_trans h2 (h1 q hq)⟩
theorem hasF_first {p : ByteArray × ByteArray} {r : Fs} {n : ByteArray} (hr : Rises (p :: r)) (h : ¬ ltN p.1 n = true) : hasF (p :: r) n = sameN p.1 n := by
 rw [hasF_cons]
 rcases first_not hr h with ⟨e, h2⟩ | ⟨_, _, h2⟩
 ·rw [hasF_above h2, Bool.or_false]
 ·rw [hasF_above h2, Bool.or_false]
theorem putF_split : ∀ {l : Fs} {n s : ByteArray}, Rises l → putF l n s = l.take (posF l n) ++ (n, s) :: l.drop (posF l n + if hasF l n = true then 1 else 0)
 | [], n, s, _ => rfl
 | p :: r, n, s, hr => by
  have h2 := (List.pairwise_cons.1 hr).2
  rw [posF]
  by_cases h : ltN p.1 n = true
  ·have hne : p.1 ≠ n := ltN_ne h
   have hnl : ¬ ltN n p.1 = true := fun h' => by have := ltN_trans h h'; rw [ltN_irrefl] at this; cases this
   have e1 : putF (p :: r) n s = p :: putF r n s := by
    unfold putF delF
    rw [List.filter_cons, if_pos (by rw [sameN_ne hne]; rfl), insF, if_neg hnl]
   rw [e1, if_pos h, hasF_cons, sameN_ne hne, Bool.false_or, putF_split h2]
   rw [List.take_succ_cons, List.cons_append, show posF r n + 1 + (if hasF r n = true then 1 else 0) = (posF r n + if hasF r n = true then 1 else 0) + 1 by omega, List.drop_succ_cons]
  ·rw [if_neg h, hasF_first hr h]
   rcases first_not hr h with ⟨e, h3⟩ | ⟨h4, e, h3⟩
   ·rw [if_pos (sameN_iff.2 e)]
    unfold putF
    have e1 : delF (p :: r) n = r := by
     unfold delF
     rw [List.filter_cons, if_neg (by rw [sameN_iff.2 e]; decide)]
     exact delF_above h3
    rw [e1]
    cases r with
    | nil => rfl
    | cons q r => 
     rw [insF, if_pos (h3 q (List.mem_cons_self ..))]
     rfl
   ·rw [sameN_ne e]
    unfold putF
    rw [delF_above (l := p :: r) (fun q hq => by rcases List.mem_cons.1 hq with rfl | hq; exact h4; exact h3 q hq), insF, if_pos h4]
    rfl
theorem getF_pos : ∀ {l : Fs} {n : ByteArray}, Rises l → hasF l n = true → ∃ p, l[posF l n]? = some p ∧ p.1 = n ∧ p.2 = getF l n
 | [], n, _, h => by cases h
 | p :: r, n, hr, h => by
  have h2 := (List.pairwise_cons.1 hr).2
  rw [posF]
  by_cases hl : ltN p.1 n = true
  ·have hne : p.1 ≠ n := ltN_ne hl
   rw [if_pos hl]
   rw [hasF_cons, sameN_ne hne, Bool.false_or] at h
   obtain ⟨q, h3, h4, h5⟩ := getF_pos h2 h
   refine ⟨q, by rw [List.getElem?_cons_succ]; exact h3, h4, ?_⟩
   rw [h5]
   unfold getF
   rw [List.find?_cons, sameN_ne hne]
  ·rw [if_neg hl]
   rw [hasF_first hr hl] at h
   refine ⟨p, rfl, sameN_iff.1 h, ?_⟩
   unfold getF
   rw [List.find?_cons, h]
   rfl
theorem getF_none {l : Fs} {n : ByteArray} (h : hasF l n = false) : getF l n = ⟨#[]⟩ := by
 unfold getF
 have : l.find? (fun p => sameN p.1 n) = none := by
  rw [List.find?_eq_none]
  intro p hp e
  have : hasF l n = true := List.any_eq_true.2 ⟨p, hp, e⟩
  rw [h] at this
  cases this
 rw [this]
 rfl
theorem drop_cons {α : Type} {l : List α} {i : Nat} (h : i < l.length) : l.drop i = l[i] :: l.drop (i + 1) := by rw [List.drop_eq_getElem_cons h]
theorem find_go (l : Fs) (hr : Rises l) (hl : l.length ≤ 1000000) (n : ByteArray) : ∀ (d i : Nat), i + d = l.length → Ev (fun k => stowageref04_Find.l0 k (filesL l) n (i : Int)) (((i + posF (l.drop i) n : Nat) : Int), hasF (l.drop i) n)
 | 0, i, h => by
  have e : l.drop i = [] := List.drop_eq_nil_of_le (by omega)
  rw [e]
  exact Ev.step (f := fun _ => some ((i : Int), false)) (fun k => by rw [stowageref04_Find.l0, if_neg (by rw [filesL_len]; omega)]) (Ev.now _)
 | d + 1, i, h => by
  have hi : i < l.length := by omega
  have hri : Rises (l.drop i) := List.Pairwise.sublist (List.drop_sublist _ _) hr
  rw [drop_cons hi] at hri ⊢
  have hrd := rd_files (List.getElem?_eq_getElem hi)
  refine Ev.step (f := fun k => if ltN (l[i]).1 n = true then stowageref04_Find.l0 k (filesL l) n ((i + 1 : Nat) : Int) else some ((i : Int), sameN (l[i]).1 n)) (fun k => ?_) ?_
  ·rw [stowageref04_Find.l0, if_pos (by rw [filesL_len]; omega), if_pos (by omega), hrd, less_ltN, eq_sameN, w1n i (by omega)]
  ·rw [posF]
   by_cases hlt : ltN (l[i]).1 n = true
   ·simp only [if_pos hlt]
    rw [hasF_cons, sameN_ne (ltN_ne hlt), Bool.false_or, show i + (posF (l.drop (i + 1)) n + 1) = i + 1 + posF (l.drop (i + 1)) n by omega]
    exact find_go l hr hl n d (i + 1) (by omega)
   ·simp only [if_neg hlt]
    rw [hasF_first hri hlt]
    exact Ev.now _
theorem find_ev (l : Fs) (hr : Rises l) (hl : l.length ≤ 1000000) (n : ByteArray) : Ev (fun k => stowageref04_Find.f k (filesL l) n) ((posF l n : Int), hasF l n) := by
 have h := find_go l hr hl n l.length 0 (by omega)
 rw [List.drop_zero, Nat.zero_add] at h
 exact h
theorem with_ev (l : Fs) (hr : Rises l) (hl : l.length ≤ 1000000) (n s : ByteArray) : Ev (fun k => stowageref04_with.f k (filesL l) n s) (filesL (putF l n s)) := by
 unfold stowageref04_with.f
 refine Ev.bind (find_ev l hr hl n) ?_
 have hp := posF_le l n
 have e := putF_split (s := s) (n := n) hr
 have hw : wrap64 ((posF l n : Int) + 1) = ((posF l n + 1 : Nat) : Int) := w1n _ (by omega)
 have hlt : (List.take (posF l n) (filesL l)).length ≤ 1000000 := by rw [List.length_take, filesL_len]; omega
 have hld : ∀ j, (List.drop j (filesL l)).length ≤ 1000000 := fun j => by rw [List.length_drop, filesL_len]; omega
 have hb1 : ([] : List S48).length + (List.take (posF l n) (filesL l)).length < 4398046511104 := by rw [List.length_nil]; omega
 have hb2 : ([] ++ List.take (posF l n) (filesL l)).length < 4398046511104 := by rw [List.nil_append]; omega
 have hb3 : ∀ j, (([] ++ List.take (posF l n) (filesL l)) ++ [(⟨n, s⟩ : S48)]).length + (List.drop j (filesL l)).length < 4398046511104 := fun j => by
  have := hld j
  rw [List.length_append, List.nil_append]
  simp only [List.length_cons, List.length_nil]
  omega
 rw [if_pos (by omega), if_pos (by rw [filesL_len]; omega), Int.toNat_natCast, Option.bind_some, if_pos hb1, Option.bind_some, if_pos hb2, Option.bind_some]
 cases hh : hasF l n with
 | true =>
  obtain ⟨p, h1, _⟩ := getF_pos hr hh
  have h2 : posF l n < l.length := (List.getElem?_eq_some_iff.1 h1).1
  rw [hh, if_pos rfl] at e
  have hfin : (([] ++ List.take (posF l n) (filesL l)) ++ [(⟨n, s⟩ : S48)]) ++ List.drop (posF l n + 1) (filesL l) = filesL (putF l n s) := by
   rw [e, List.nil_append, filesL_app, filesL_take, filesL_drop, List.append_assoc]
   rfl
  rw [if_pos rfl, hw, if_pos (by omega), if_pos (by rw [filesL_len]; omega), Int.toNat_natCast, Option.bind_some, if_pos (hb3 _), hfin]
  exact Ev.now _
 | false =>
  rw [hh, if_neg (by simp), Nat.add_zero] at e
  have hfin : (([] ++ List.take (posF l n) (filesL l)) ++ [(⟨n, s⟩ : S48)]) ++ List.drop (posF l n) (filesL l) = filesL (putF l n s) := by
   rw [e, List.nil_append, filesL_app, filesL_take, filesL_drop, List.append_assoc]
   rfl
  rw [if_neg (by simp), Option.bind_some, if_pos (hb3 _), hfin]
  exact Ev.now _
theorem without_go (l : Fs) (hl : l.length ≤ 1000000) (n : ByteArray) : ∀ (d i : Nat) (acc : Fs), i + d = l.length → acc.length ≤ i → Ev (fun k => stowageref04_without.l0 k (filesL l) n (filesL acc) (i : Int)) (filesL (acc ++ delF (l.drop i) n))
 | 0, i, acc, h, ha => by
  have e : l.drop i = [] := List.drop_eq_nil_of_le (by omega)
  rw [e]
  have : acc ++ delF [] n = acc := List.append_nil _
  rw [this]
  exact Ev.step (f := fun _ => some (filesL acc)) (fun k => by rw [stowageref04_without.l0, if_neg (by rw [filesL_len]; omega)]) (Ev.now _)
 | d + 1, i, acc, h, ha => by
  have hi : i < l.length := by omega
  rw [drop_cons hi]
  have hrd := rd_files (List.getElem?_eq_getElem hi)
  by_cases e : (l[i]).1 = n
  ·have e2 : delF (l[i] :: l.drop (i + 1)) n = delF (l.drop (i + 1)) n := by
    unfold delF
    rw [List.filter_cons, if_neg (by rw [sameN_iff.2 e]; decide)]
   rw [e2]
   refine Ev.step (f := fun k => stowageref04_without.l0 k (filesL l) n (filesL acc) ((i + 1 : Nat) : Int)) (fun k => ?_) (without_go l hl n d (i + 1) acc (by omega) (by omega))
   rw [stowageref04_without.l0, if_pos (by rw [filesL_len]; omega), if_pos (by omega), hrd, if_pos ((eq_iffN _ _).2 e), w1n i (by omega)]
  ·have e2 : acc ++ delF (l[i] :: l.drop (i + 1)) n = (acc ++ [l[i]]) ++ delF (l.drop (i + 1)) n := by
    unfold delF
    rw [List.filter_cons, if_pos (by rw [sameN_ne e]; rfl), List.append_assoc]
    rfl
   rw [e2]
   refine Ev.step (f := fun k => stowageref04_without.l0 k (filesL l) n (filesL (acc ++ [l[i]])) ((i + 1 : Nat) : Int)) (fun k => ?_) (without_go l hl n d (i + 1) (acc ++ [l[i]]) (by omega) (by rw [List.length_append]; simp; omega))
   rw [stowageref04_without.l0, if_pos (by rw [filesL_len]; omega), if_pos (by omega), hrd, if_neg (fun h => e ((eq_iffN _ _).1 h)), if_pos (by rw [filesL_len]; omega), w1n i (by omega), filesL_app]
   rfl
theorem without_ev (l : Fs) (hl : l.length ≤ 1000000) (n : ByteArray) : Ev (fun k => stowageref04_without.f k (filesL l) n) (filesL (delF l n)) :=
 without_go l hl n l.length 0 [] (by omega) (Nat.le_refl _)
theorem del_ins : ∀ {l : Fs} {x : ByteArray × ByteArray} {n : ByteArray}, Rises l → x.1 ≠ n → delF (insF x l) n = insF x (delF l n)
 | [], x, n, _, h => by
  unfold delF
  rw [insF, List.filter_cons, if_pos (by rw [sameN_ne h]; rfl)]
  rfl
 | p :: r, x, n, hr, h => by
  obtain ⟨h1, h2⟩ := List.pairwise_cons.1 hr
  rw [insF]
  by_cases hl : ltN x.1 p.1 = true
  ·rw [if_pos hl]
   have e1 : delF (x :: p :: r) n = x :: delF (p :: r) n := by
    show List.filter _ _ = _
    rw [List.filter_cons, if_pos (by rw [sameN_ne h]; rfl)]
    rfl
   rw [e1]
   have hab : ∀ q ∈ delF (p :: r) n, ltN x.1 q.1 = true := fun q hq => by
    rcases List.mem_cons.1 (mem_delF.1 hq).1 with rfl | hq
    ·exact hl
    ·exact ltN_trans hl (h1 q hq)
   cases hd : delF (p :: r) n with
   | nil => rfl
   | cons q t =>
    rw [insF, if_pos (hab q (by rw [hd]; exact List.mem_cons_self ..))]
  ·rw [if_neg hl]
   by_cases e : p.1 = n
   ·have e1 : ∀ t, delF (p :: t) n = delF t n := fun t => by
     show List.filter _ _ = _
     rw [List.filter_cons, if_neg (by rw [sameN_iff.2 e]; decide)]
     rfl
    rw [e1, e1]
    exact del_ins h2 h
   ·have e1 : ∀ t, delF (p :: t) n = p :: delF t n := fun t => by
     show List.filter _ _ = _
     rw [List.filter_cons, if_pos (by rw [sameN_ne e]; rfl)]
     rfl
    rw [e1, e1, insF, if_neg hl, del_ins h2 h]
theorem do_ev {l : Fs} (hr : Rises l) (hl : l.length ≤ 1000000) {c : Chg} (hok : OkC l c) (hn : c.kind = 2 → c.name ≠ c.dest) {b s : ByteArray} {n : Int} (hb : c.kind = 2 → b = c.dest) (hs : c.kind ≤ 1 → s = c.s) (hc : c.kind = 4 → n = c.long) :
  Ev (fun k => stowageref04_Do.f k (filesL l) c.kind c.name b s n) (filesL (doC l c)) := by
 unfold stowageref04_Do.f
 refine Ev.bind (find_ev l hr hl c.name) ?_
 have hj : Ev (fun k => stowageref04_Do.j0 k (filesL l) (getF l c.name) c.kind c.name b s n) (filesL (doC l c)) := by
  have ht := hok.tot
  have hg := getF_le l c.name
  have hk := hok.kind
  unfold doC
  by_cases h0 : c.kind = 0
  ·rw [if_pos h0]
   refine Ev.step (f := fun k => (stowageref04_with.f k (filesL l) c.name (getF l c.name ++ c.s)).bind fun t => some t) (fun k => ?_) (Ev.bind (with_ev l hr hl c.name _) (Ev.now _))
   rw [stowageref04_Do.j0, if_pos h0, hs (by omega), if_pos (by omega)]
  rw [if_neg h0]
  by_cases h1 : c.kind = 1
  ·rw [if_pos h1]
   refine Ev.step (f := fun k => (stowageref04_with.f k (filesL l) c.name c.s).bind fun t => some t) (fun k => ?_) (Ev.bind (with_ev l hr hl c.name _) (Ev.now _))
   rw [stowageref04_Do.j0, if_neg h0, if_pos h1, hs (by omega)]
  rw [if_neg h1]
  by_cases h2 : c.kind = 2
  ·rw [if_pos h2]
   have e : delF (putF l c.dest (getF l c.name)) c.name = putF (delF l c.name) c.dest (getF l c.name) := by
    unfold putF
    rw [del_ins (delF_rises _ hr) (fun e => hn h2 e.symm), delF_comm]
   rw [e]
   refine Ev.step (f := fun k => (stowageref04_without.f k (filesL l) c.name).bind fun t => ((stowageref04_with.f k t c.dest (getF l c.name)).bind fun u => some u)) (fun k => ?_) (Ev.bind (without_ev l hl c.name) (Ev.bind (with_ev (delF l c.name) (delF_rises _ hr) (by have := delF_len l c.name; omega) c.dest _) (Ev.now _)))
   rw [stowageref04_Do.j0, if_neg h0, if_neg h1, if_pos h2, hb h2]
  rw [if_neg h2]
  by_cases h3 : c.kind = 3
  ·rw [if_pos h3]
   refine Ev.step (f := fun k => (stowageref04_without.f k (filesL l) c.name).bind fun t => some t) (fun k => ?_) (Ev.bind (without_ev l hl c.name) (Ev.now _))
   rw [stowageref04_Do.j0, if_neg h0, if_neg h1, if_neg h2, if_pos h3]
  rw [if_neg h3]
  have h4 : c.kind = 4 := by omega
  obtain ⟨c1, c2⟩ := hok.cut h4
  refine Ev.step (f := fun k => (stowageref04_with.f k (filesL l) c.name ((getF l c.name).extract 0 c.long.toNat)).bind fun t => some t) (fun k => ?_) (Ev.bind (with_ev l hr hl c.name _) (Ev.now _))
  rw [stowageref04_Do.j0, if_neg h0, if_neg h1, if_neg h2, if_neg h3, hc h4, if_pos c1, if_pos c2]
 cases hh : hasF l c.name with
 | true =>
  obtain ⟨p, h1, _, h3⟩ := getF_pos hr hh
  have h2 : posF l c.name < l.length := (List.getElem?_eq_some_iff.1 h1).1
  refine Ev.congr (fun k => ?_) hj
  rw [if_pos rfl, if_pos (by omega), if_pos (by rw [filesL_len]; omega), rd_files h1, h3]
 | false =>
  refine Ev.congr (fun k => ?_) hj
  rw [if_neg (by simp), getF_none hh]
/-! the document's disk -/
def nrm (r : S86) : Chg := ⟨r.f0, r.f1, if r.f0 = 2 then r.f2 else ⟨#[]⟩, if r.f0 ≤ 1 then r.f3 else ⟨#[]⟩, if r.f0 = 4 then r.f4 else 0⟩
theorem do_nrm {l : Fs} (hr : Rises l) (hl : l.length ≤ 1000000) (r : S86) (hok : OkC l (nrm r)) (hn : NmC (nrm r)) : Ev (fun k => stowageref04_Do.f k (filesL l) r.f0 r.f1 r.f2 r.f3 r.f4) (filesL (doC l (nrm r))) :=
 do_ev (c := nrm r) hr hl hok (fun e => (hn.dest e).2) (fun e => by show r.f2 = if r.f0 = 2 then r.f2 else _; rw [if_pos (show r.f0 = 2 from e)]) (fun e => by show r.f3 = if r.f0 ≤ 1 then r.f3 else _; rw [if_pos (show r.f0 ≤ 1 from e)]) (fun e => by show r.f4 = if r.f0 = 4 then r.f4 else _; rw [if_pos (show r.f0 = 4 from e)])
theorem rd_chg {W : List S86} {i : Nat} {r : S86} (h : W[i]? = some r) : rd_T86 W (i : Int) = r := by
 unfold rd_T86
 rw [Int.toNat_natCast, List.getD_eq_getElem?_getD, h]
 rfl
theorem now_go (W : List S86) (s0 : List S48) (n : Int) (dn : Bool) (fl : List S90) (rm : Int) (hW : W.length ≤ 1000000) : ∀ (t : List S86) (i : Nat) (l : Fs), W.drop i = t → i ≤ W.length → Rises l → Valid l (t.map nrm) → (∀ r ∈ t, NmC (nrm r)) → l.length + t.length ≤ 1000000 →
  Ev (fun k => stowageref04_Disk_Now.l0 k (filesL l) (i : Int) s0 W n dn fl rm) (filesL ((t.map nrm).foldl doC l))
 | [], i, l, hd, hi, _, _, _, _ => by
  have : W.length ≤ i := by have := congrArg List.length hd; rw [List.length_drop] at this; simp at this; omega
  exact Ev.step (f := fun _ => some (filesL l)) (fun k => by rw [stowageref04_Disk_Now.l0, if_neg (by omega)]) (Ev.now _)
 | r :: t, i, l, hd, hi, hr, hv, hn, hl => by
  have hlt : i < W.length := by have := congrArg List.length hd; rw [List.length_drop] at this; simp at this; omega
  have hd2 : W.drop (i + 1) = t := by rw [drop_cons hlt] at hd; exact (List.cons.inj hd).2
  have hr0 : W[i]? = some r := by rw [drop_cons hlt] at hd; rw [List.getElem?_eq_getElem hlt, (List.cons.inj hd).1]
  rw [List.length_cons] at hl
  have hl2 := doC_len l (nrm r)
  have ih := now_go W s0 n dn fl rm hW t (i + 1) (doC l (nrm r)) hd2 (by omega) (doC_rises _ hr) hv.2 (fun x hx => hn x (List.mem_cons_of_mem _ hx)) (by omega)
  refine Ev.step (f := fun k => (stowageref04_Do.f k (filesL l) r.f0 r.f1 r.f2 r.f3 r.f4).bind fun u => stowageref04_Disk_Now.l0 k u ((i + 1 : Nat) : Int) s0 W n dn fl rm) (fun k => ?_) (Ev.bind (do_nrm hr (by omega) r hv.1 (hn r (List.mem_cons_self ..))) ih)
  rw [stowageref04_Disk_Now.l0, if_pos (by omega), if_pos (by omega), rd_chg hr0, w1n i (by omega)]
/-- the document's disk that is a disk of ours -/
structure RelD (i : Nat) (st : DK) (W : List S86) (rm : Int) : Prop where
 gp : GP i st
 wait : st.wait = W.map nrm
 room : st.room = max rm (-1)
theorem RelD.len {i : Nat} {st : DK} {W : List S86} {rm : Int} (h : RelD i st W rm) : W.length = st.wait.length := by rw [h.wait, List.length_map]
theorem now_ev {i : Nat} {st : DK} {W : List S86} {rm : Int} (h : RelD i st W rm) (hi : i ≤ 1000) (n : Int) (dn : Bool) (fl : List S90) :
  Ev (fun k => stowageref04_Disk_Now.f k (filesL st.sure) W n dn fl rm) (filesL st.now) := by
 have hl := h.gp.len
 have hw := h.len
 have hv := h.gp.val
 have hn := h.gp.nms
 have hnow := h.gp.now
 rw [h.wait] at hv hn hnow
 rw [hnow]
 exact now_go W (filesL st.sure) n dn fl rm (by omega) W 0 st.sure rfl (Nat.zero_le _) h.gp.ris hv (fun r hr => hn _ (List.mem_map_of_mem hr)) (by omega)
theorem used_go (l : Fs) (hl : l.length ≤ 1000000) (ht : totF l ≤ 4000000000000000000) : ∀ (t : Fs) (i a : Nat), l.drop i = t → a + totF t ≤ 4000000000000000000 → Ev (fun k => stowageref04_Disk_Used.l0 k (a : Int) (filesL l) (i : Int)) (((a + totF t : Nat) : Int))
 | [], i, a, hd, ha => by
  have : l.length ≤ i := by have := congrArg List.length hd; rw [List.length_drop] at this; simp at this; omega
  exact Ev.step (f := fun _ => some (a : Int)) (fun k => by rw [stowageref04_Disk_Used.l0, if_neg (by rw [filesL_len]; omega)]) (Ev.now _)
 | p :: t, i, a, hd, ha => by
  have hlt : i < l.length := by have := congrArg List.length hd; rw [List.length_drop] at this; simp at this; omega
  have hd2 : l.drop (i + 1) = t := by rw [drop_cons hlt] at hd; exact (List.cons.inj hd).2
  have hr0 : l[i]? = some p := by rw [drop_cons hlt] at hd; rw [List.getElem?_eq_getElem hlt, (List.cons.inj hd).1]
  have e : totF (p :: t) = p.2.size + totF t := by unfold totF; rw [List.map_cons, List.sum_cons]
  rw [e] at ha ⊢
  rw [show a + (p.2.size + totF t) = a + p.2.size + totF t by omega]
  refine Ev.step (f := fun k => stowageref04_Disk_Used.l0 k ((a + p.2.size : Nat) : Int) (filesL l) ((i + 1 : Nat) : Int)) (fun k => ?_) (used_go l hl ht t (i + 1) (a + p.2.size) hd2 (by omega))
  rw [stowageref04_Disk_Used.l0, if_pos (by rw [filesL_len]; omega), if_pos (by omega), rd_files hr0, w1n i (by omega)]
  show stowageref04_Disk_Used.l0 k (wrap64 ((a : Int) + (p.2.size : Int))) _ _ = _
  rw [IntWalk.wrap64_in _ (by omega), show (a : Int) + (p.2.size : Int) = ((a + p.2.size : Nat) : Int) by omega]
theorem used_ev {i : Nat} {st : DK} {W : List S86} {rm : Int} (h : RelD i st W rm) (hi : i ≤ 1000) (n : Int) (dn : Bool) (fl : List S90) :
  Ev (fun k => stowageref04_Disk_Used.f k (filesL st.sure) W n dn fl rm) ((totF st.now : Nat) : Int) := by
 have hs := h.gp.small hi
 refine Ev.bind (now_ev h hi n dn fl) ?_
 have := used_go st.now (by have := h.gp.nowLen; omega) hs st.now 0 0 rfl (by omega)
 rw [Nat.zero_add] at this
 exact this
theorem rsync_ev {i : Nat} {st : DK} {W : List S86} {rm : Int} (h : RelD i st W rm) (hi : i ≤ 1000) (n : Int) (fl : List S90) :
  Ev (fun k => stowageref04_Disk_Sync.f k (filesL st.sure) W n st.down fl rm) (filesL (syncK st).sure, (if st.down = true then W else []), n, st.down, fl, rm, syncE st) := by
 unfold stowageref04_Disk_Sync.f syncK syncE
 by_cases hd : st.down = true
 ·simp only [if_pos hd]; exact Ev.now _
 ·simp only [if_neg hd]
  exact Ev.bind (now_ev h hi n st.down fl) (Ev.now _)
end Go.Proofs.Ytabngibognlmoaa.Q
