
/- What changes keep; calls and files. -/
import Derived.Outline
import Derived.Test.YtabngibognlmoaaDk3
import Derived.Test.YtabngibognlmoaaQx9
namespace Go.Proofs.Ytabngibognlmoaa.Q
open Go.Maps Go.WideShapes Go.WideMaps Go.RowKit Go.Proofs.YtabngibognlmoaaW.PrintWords Go.Proofs.YtabngibognlmoaaW.PrintLast Go.Proofs.YtabngibognlmoaaW.PrintMore
set_option linter.unusedVariables false
set_option linter.unusedSimpArgs false
set_option maxHeartbeats 10000000
set_option maxRecDepth 100000
structure S40 where
 f0 : Int
 f1 : ByteArray
 f2 : ByteArray
 f3 : ByteArray
 f4 : Int
 f5 : S23
 f6 : (List S23)
def k40 : Kd S40 := Kd.iso (Kd.pair (Kd.int .i64) (Kd.pair Kd.string (Kd.pair Kd.string (Kd.pair Kd.string (Kd.pair (Kd.int .i64) (Kd.pair k23 (Kd.slice 23 k23))))))) (fun x : S40 => (x.f0, x.f1, x.f2, x.f3, x.f4, x.f5, x.f6))
theorem k40_open {w : World} {x : S40} {cs : List Value} (h : k40.K w x cs) : ∃ A c, cs = [.int .i64 x.f0, .string x.f1, .string x.f2, .string x.f3, .int .i64 x.f4, .int .i64 x.f5.f0, .int .i64 x.f5.f1, .int .i64 x.f5.f2, .slice A x.f6.length c] ∧ x.f6.length ≤ c ∧ Kd.C k23 w A x.f6.length x.f6 := by
 obtain ⟨_, _, rfl, rfl, ⟨_, _, rfl, rfl, ⟨_, _, rfl, rfl, ⟨_, _, rfl, rfl, ⟨_, _, rfl, rfl, ⟨_, _, rfl, h5, ⟨A, c, rfl, hl, hC⟩⟩⟩⟩⟩⟩⟩ := h
 rw [k23_open h5]
 exact ⟨A, c, rfl, hl, hC⟩
theorem run_loadAt_any {P : Program} (w : World) (a : Addr) (ty : TypeId) (cs : List Value) (d : TypeDesc) (hc : ∀ j v, cs[j]? = some v → w.cell? (a.add j) = some v)
  (hu : P.underlying ty = some d) (hd : d.isRow = true) (hi : (P.info? ty).map (·.size) = some cs.length) :
  (Instr.loadAt ty (.pointer (some a))).run P w = .ok (.agg cs.toArray) w := by
 have hl := run_loadCells_list (P := P) w a cs hc
 cases hq : P.info? ty with
 | none => simp [hq] at hi
 | some i =>
  have hs : i.size = cs.length := by simpa [hq] using hi
  have hagg : (isAgg ty).run P w = .ok true w := by
   unfold isAgg
   rw [Sem.run_bind, run_underlying hu w]
   cases d <;> simp_all [TypeDesc.isRow]
  simp [Instr.loadAt, Instr.sureAddr, loadVar, Sem.run_bind, hagg, sizeOf, typeInfo, hq, hs, hl]
def zA : S40 := ⟨0, ⟨#[]⟩, ⟨#[]⟩, ⟨#[]⟩, 0, ⟨0, 0, 0⟩, []⟩
theorem at_A {w : World} {A : Option Addr} {n : Nat} {xs : List S40} (h : Kd.C k40 w A n xs) (i : Nat) (h1 : i < n) : ∃ ad B m c, A = some ad ∧ w.cell? (ad.add (i * 9)) = some (.int .i64 (xs.getD i zA).f0) ∧ w.cell? ⟨(ad.add (i * 9)).block, (ad.add (i * 9)).off + 1, none⟩ = some (.string (xs.getD i zA).f1) ∧ w.cell? ⟨(ad.add (i * 9)).block, (ad.add (i * 9)).off + 2, none⟩ = some (.string (xs.getD i zA).f2) ∧ w.cell? ⟨(ad.add (i * 9)).block, (ad.add (i * 9)).off + 3, none⟩ = some (.string (xs.getD i zA).f3) ∧ w.cell? ⟨(ad.add (i * 9)).block, (ad.add (i * 9)).off + 4, none⟩ = some (.int .i64 (xs.getD i zA).f4) ∧ w.cell? ⟨(ad.add (i * 9)).block, (ad.add (i * 9)).off + 5, none⟩ = some (.int .i64 (xs.getD i zA).f5.f0) ∧ w.cell? ⟨(ad.add (i * 9)).block, (ad.add (i * 9)).off + 6, none⟩ = some (.int .i64 (xs.getD i zA).f5.f1) ∧ w.cell? ⟨(ad.add (i * 9)).block, (ad.add (i * 9)).off + 7, none⟩ = some (.int .i64 (xs.getD i zA).f5.f2) ∧ w.cell? ⟨(ad.add (i * 9)).block, (ad.add (i * 9)).off + 8, none⟩ = some (.slice B m c) ∧ (Instr.loadAt 40 (.pointer (some (ad.add (i * 9))))).run Try.prog w = .ok (.agg #[.int .i64 (xs.getD i zA).f0, .string (xs.getD i zA).f1, .string (xs.getD i zA).f2, .string (xs.getD i zA).f3, .int .i64 (xs.getD i zA).f4, .int .i64 (xs.getD i zA).f5.f0, .int .i64 (xs.getD i zA).f5.f1, .int .i64 (xs.getD i zA).f5.f2, .slice B m c]) w ∧ m = (xs.getD i zA).f6.length ∧ m ≤ c ∧ Kd.C k23 w B m (xs.getD i zA).f6 := by
 obtain ⟨ad, cs, e, _, hK, hc0⟩ := Kd.C_get h zA (i : Int) (by omega) (by omega)
 rw [Int.toNat_natCast] at hK hc0
 have hc : ∀ j u, cs[j]? = some u → w.cell? (ad.add (i * 9 + j)) = some u := hc0
 obtain ⟨B, c, rfl, hl, hC⟩ := k40_open hK
 refine ⟨ad, B, _, c, e, hc 0 _ rfl, ?_, ?_, ?_, ?_, ?_, ?_, ?_, ?_, ?_, rfl, hl, hC⟩
 ·rw [← add_field _ _ 1 (by omega)]; exact hc 1 _ rfl
 ·rw [← add_field _ _ 2 (by omega)]; exact hc 2 _ rfl
 ·rw [← add_field _ _ 3 (by omega)]; exact hc 3 _ rfl
 ·rw [← add_field _ _ 4 (by omega)]; exact hc 4 _ rfl
 ·rw [← add_field _ _ 5 (by omega)]; exact hc 5 _ rfl
 ·rw [← add_field _ _ 6 (by omega)]; exact hc 6 _ rfl
 ·rw [← add_field _ _ 7 (by omega)]; exact hc 7 _ rfl
 ·rw [← add_field _ _ 8 (by omega)]; exact hc 8 _ rfl
 ·exact run_loadAt_any w _ 40 [_, _, _, _, _, _, _, _, _] _ (fun j v hv => by rw [Addr.add_add]; exact hc j v hv) Try.underlying40 rfl (by kernel_rfl)
theorem changeK_none {st : DK} {c : Chg} (h : hitI st = none) : changeK st c = (addK st c, 0) := by unfold changeK; rw [h]
/-! what changes keep -/
theorem ltN_total {a b : ByteArray} (h : a ≠ b) : ltN a b = true ∨ ltN b a = true := WideAt.bytes_total _ _ (fun e => h (ba_inj e))
theorem insF_rises {x : ByteArray × ByteArray} : ∀ {l : Fs}, Rises l → (∀ p ∈ l, p.1 ≠ x.1) → Rises (insF x l)
 | [], _, _ => List.pairwise_singleton _ _
 | y :: r, h, hn => by
  obtain ⟨h1, h2⟩ := List.pairwise_cons.1 h
  rw [insF]
  split
  ·rename_i hlt
   refine List.pairwise_cons.2 ⟨fun p hp => ?_, h⟩
   rcases List.mem_cons.1 hp with rfl | hp
   ·exact hlt
   ·exact ltN_trans hlt (h1 p hp)
  ·rename_i hlt
   have hyx : ltN y.1 x.1 = true := (ltN_total (hn y List.mem_cons_self)).resolve_right hlt
   refine List.pairwise_cons.2 ⟨fun p hp => ?_, insF_rises h2 (fun p hp => hn p (List.mem_cons_of_mem _ hp))⟩
   rcases mem_insF.1 hp with rfl | hp
   ·exact hyx
   ·exact h1 p hp
theorem mem_delF {l : Fs} {n : ByteArray} {p : ByteArray × ByteArray} : p ∈ delF l n ↔ p ∈ l ∧ p.1 ≠ n := by
 unfold delF
 rw [List.mem_filter, Bool.not_eq_true', ← Bool.not_eq_true, sameN_iff]
theorem mem_putF {l : Fs} {n s : ByteArray} {p : ByteArray × ByteArray} : p ∈ putF l n s ↔ p = (n, s) ∨ (p ∈ l ∧ p.1 ≠ n) := by
 unfold putF
 rw [mem_insF, mem_delF]
theorem delF_rises {l : Fs} (n : ByteArray) (h : Rises l) : Rises (delF l n) := List.Pairwise.filter _ h
theorem putF_rises {l : Fs} (n s : ByteArray) (h : Rises l) : Rises (putF l n s) := insF_rises (delF_rises n h) (fun p hp => (mem_delF.1 hp).2)
theorem doC_rises {l : Fs} (c : Chg) (h : Rises l) : Rises (doC l c) := by
 unfold doC
 repeat' split
 ·exact putF_rises _ _ h
 ·exact putF_rises _ _ h
 ·exact delF_rises _ (putF_rises _ _ h)
 ·exact delF_rises _ h
 ·exact putF_rises _ _ h
def Named (l : Fs) : Prop := ∀ p ∈ l, nameS p.1 = true
theorem putF_named {l : Fs} {n s : ByteArray} (h : Named l) (hn : nameS n = true) : Named (putF l n s) := by
 intro p hp
 rcases mem_putF.1 hp with rfl | ⟨hp, _⟩
 ·exact hn
 ·exact h p hp
theorem delF_named {l : Fs} {n : ByteArray} (h : Named l) : Named (delF l n) := fun p hp => h p (mem_delF.1 hp).1
/-- the names that a change bears -/
structure NmC (c : Chg) : Prop where
 name : nameS c.name = true
 dest : c.kind = 2 → nameS c.dest = true ∧ c.name ≠ c.dest
theorem doC_named {l : Fs} {c : Chg} (h : Named l) (hc : NmC c) : Named (doC l c) := by
 unfold doC
 split
 ·exact putF_named h hc.name
 split
 ·exact putF_named h hc.name
 split
 ·rename_i hk; exact delF_named (putF_named h (hc.dest hk).1)
 split
 ·exact delF_named h
 ·exact putF_named h hc.name
theorem doC_len (l : Fs) (c : Chg) : (doC l c).length ≤ l.length + 1 := by
 unfold doC
 repeat' split
 ·exact putF_len _ _ _
 ·exact putF_len _ _ _
 ·exact Nat.le_trans (delF_len _ _) (putF_len _ _ _)
 ·exact Nat.le_trans (delF_len _ _) (Nat.le_succ _)
 ·exact putF_len _ _ _
theorem delF_insF {x : ByteArray × ByteArray} {n : ByteArray} (h : x.1 ≠ n) : ∀ l : Fs, totF (delF (insF x l) n) = x.2.size + totF (delF l n) := by
 have hx : sameN x.1 n = false := by rw [← Bool.not_eq_true, sameN_iff]; exact h
 intro l
 induction l with
 | nil => simp [insF, delF, totF, hx]
 | cons y r ih =>
  rw [insF]
  split
  ·simp [delF, totF, hx]
  ·cases hy : sameN y.1 n with
   | true =>
    rw [show delF (y :: insF x r) n = delF (insF x r) n by simp [delF, hy], show delF (y :: r) n = delF r n by simp [delF, hy]]
    exact ih
   | false =>
    rw [show delF (y :: insF x r) n = y :: delF (insF x r) n by simp [delF, hy], show delF (y :: r) n = y :: delF r n by simp [delF, hy]]
    unfold totF at ih ⊢
    simp only [List.map_cons, List.sum_cons]
    omega
theorem delF_comm (l : Fs) (a b : ByteArray) : delF (delF l a) b = delF (delF l b) a := by
 unfold delF
 rw [List.filter_filter, List.filter_filter]
 congr 1
 funext p
 exact Bool.and_comm _ _
theorem doC_tot (l : Fs) (c : Chg) (hc : c.kind = 2 → c.name ≠ c.dest) : totF (doC l c) ≤ totF l + c.s.size ∧ (2 ≤ c.kind → totF (doC l c) ≤ totF l) ∧ (c.kind = 1 → totF (doC l c) + (getF l c.name).size ≤ totF l + c.s.size) := by
 have hg := getF_tot l c.name
 unfold doC
 split
 ·have := putF_tot l c.name (getF l c.name ++ c.s)
  rw [ByteArray.size_append] at this
  refine ⟨by omega, fun e => by omega, fun e => by omega⟩
 split
 ·have := putF_tot l c.name c.s
  exact ⟨by omega, fun e => by omega, fun _ => this⟩
 split
 ·rename_i hk
  have h1 : totF (delF (putF l c.dest (getF l c.name)) c.name) ≤ totF l := by
   unfold putF
   rw [delF_insF (x := (c.dest, getF l c.name)) (fun e => hc hk e.symm), delF_comm]
   have := delF_tot (delF l c.name) c.dest
   simp only
   omega
  exact ⟨by omega, fun _ => h1, fun e => by omega⟩
 split
 ·have := delF_tot l c.name
  exact ⟨by omega, fun _ => this, fun e => by omega⟩
 ·have h1 := putF_tot l c.name ((getF l c.name).extract 0 c.long.toNat)
  rw [ByteArray.size_extract] at h1
  exact ⟨by omega, fun _ => by omega, fun e => by omega⟩
/-! a disk that is up, without falls, behind at most i changes -/
abbrev BM : Nat := 140737488351232
structure Good (i : Nat) (st : DK) : Prop where
 now : st.now = st.wait.foldl doC st.sure
 val : Valid st.sure st.wait
 ris : Rises st.now
 named : Named st.now
 tot : totF st.now ≤ i * BM
 len : st.now.length ≤ i
 wl : st.wait.length ≤ i
 cnt : 0 ≤ st.count ∧ st.count ≤ i
 fal : st.falls = []
 up : st.down = false
theorem Good.mono {i j : Nat} {st : DK} (h : Good i st) (hij : i ≤ j) : Good j st :=
 ⟨h.now, h.val, h.ris, h.named, Nat.le_trans h.tot (Nat.mul_le_mul_right _ hij), Nat.le_trans h.len hij, Nat.le_trans h.wl hij, ⟨h.cnt.1, Int.le_trans h.cnt.2 (by omega)⟩, h.fal, h.up⟩
theorem Good.hit {i : Nat} {st : DK} (h : Good i st) : hitI st = none := by
 unfold hitI
 rw [h.fal]
 rfl
theorem Good.add {i : Nat} {st : DK} (h : Good i st) {c : Chg} (hok : OkC st.now c) (hn : NmC c) (hs : c.s.size ≤ BM) : Good (i + 1) (addK st c) := by
 refine ⟨?_, ?_, doC_rises c h.ris, doC_named h.named hn, ?_, ?_, ?_, ?_, h.fal, h.up⟩
 ·show doC st.now c = (st.wait ++ [c]).foldl doC st.sure
  rw [List.foldl_append, ← h.now]
  rfl
 ·exact Valid.snoc h.val (by show OkC (st.wait.foldl doC st.sure) c; rw [← h.now]; exact hok)
 ·have h1 := (doC_tot st.now c (fun e => (hn.dest e).2)).1
  have h2 := h.tot
  show totF (doC st.now c) ≤ _
  rw [Nat.add_mul]
  omega
 ·have h1 := doC_len st.now c
  have h2 := h.len
  show (doC st.now c).length ≤ _
  omega
 ·show (st.wait ++ [c]).length ≤ _
  rw [List.length_append]
  have := h.wl
  simp only [List.length_cons, List.length_nil]
  omega
 ·have := h.cnt
  show 0 ≤ st.count + 1 ∧ st.count + 1 ≤ _
  omega
theorem Good.can {i : Nat} {st : DK} (h : Good i st) (hi : i ≤ 1000) {c : Chg} (hok : OkC st.now c) : CanC st c := by
 refine ⟨hok, ?_, ?_, ?_, Valid.snoc h.val (by rw [← h.now]; exact hok)⟩
 ·have := h.wl; omega
 ·have := h.cnt; omega
 ·rw [h.fal]; decide
theorem Good.okc {i : Nat} {st : DK} (h : Good i st) (hi : i ≤ 1000) {k : Int} {a b s : ByteArray} {n : Int} (hk : 0 ≤ k ∧ k ≤ 4) (ha : a.size ≤ BM) (hb : b.size ≤ BM) (hs : s.size ≤ BM) (hc : k = 4 → 0 ≤ n ∧ n ≤ ((getF st.now a).size : Int)) : OkC st.now ⟨k, a, b, s, n⟩ := by
 have h1 := h.tot
 have h2 := h.len
 have h3 : i * BM ≤ 1000 * BM := Nat.mul_le_mul_right _ hi
 refine ⟨hk, Nat.le_trans ha (by decide), Nat.le_trans hb (by decide), by omega, ?_, hc⟩
 show totF st.now + s.size ≤ _
 simp only [BM] at *
 omega
theorem Good.small {i : Nat} {st : DK} (h : Good i st) (hi : i ≤ 1000) : totF st.now ≤ 4000000000000000000 := by
 have h1 := h.tot
 have h3 : i * BM ≤ 1000 * BM := Nat.mul_le_mul_right _ hi
 simp only [BM] at *
 omega
theorem Good.sync {i : Nat} {st : DK} (h : Good i st) : Good i (syncK st) ∧ syncE st = 0 := by
 obtain ⟨h1, h2⟩ := syncK_up h.up
 refine ⟨?_, h2⟩
 rw [h1]
 exact ⟨rfl, trivial, h.ris, h.named, h.tot, h.len, Nat.zero_le _, h.cnt, h.fal, h.up⟩
theorem Good.room {i : Nat} {st : DK} (h : Good i st) (n : Int) : Good i { st with room := n } := ⟨h.now, h.val, h.ris, h.named, h.tot, h.len, h.wl, h.cnt, h.fal, h.up⟩
def callK (st : DK) (k : Int) (a b s : ByteArray) (n : Int) : DK × Int :=
 if k = 0 then appendK st a s else if k = 1 then writeK st a s else if k = 2 then moveK st a b else if k = 3 then removeK st a else cutK st a n
/-- A call leaves the disk as it was, and tells why; or it makes its change. -/
theorem call_cases {i : Nat} {st : DK} (h : Good i st) (hi : i ≤ 1000) {k : Int} {a b s : ByteArray} {n : Int} (hk : 0 ≤ k ∧ k ≤ 4) (ha : a.size ≤ BM) (hb : b.size ≤ BM) (hs : s.size ≤ BM) :
  (∃ e, e ≠ 0 ∧ callK st k a b s n = (st, e)) ∨ ∃ c : Chg, c.kind = k ∧ c.name = a ∧ (k ≤ 1 → c.s = s) ∧ callK st k a b s n = (addK st c, 0) ∧ OkC st.now c ∧ NmC c ∧ c.s.size ≤ BM ∧ (k = 0 → roomE st 0 s.size = false) ∧ (k = 1 → roomE st (getF st.now a).size s.size = false) := by
 have hz : (⟨#[]⟩ : ByteArray).size ≤ BM := by decide
 have hx : (22 : Int) ≠ 0 := by decide
 unfold callK
 by_cases h0 : k = 0
 ·subst h0
  rw [if_pos rfl]
  unfold appendK
  by_cases h1 : askE st.down [a] = 0
  ·rw [if_pos h1]
   cases h2 : roomE st 0 s.size with
   | true => rw [if_pos rfl]; exact Or.inl ⟨22, by decide, rfl⟩
   | false =>
    rw [if_neg (by simp), changeK_none h.hit]
    exact Or.inr ⟨_, rfl, rfl, fun _ => rfl, rfl, h.okc hi (by decide) ha hz hs (fun e => absurd e (by decide)), ⟨(askE_one h1).2, (fun e => absurd (show (0 : Int) = 2 from e) (by decide))⟩, hs, fun _ => rfl, (fun e => absurd e (by decide))⟩
  ·rw [if_neg h1]; exact Or.inl ⟨_, h1, rfl⟩
 rw [if_neg h0]
 by_cases h0' : k = 1
 ·subst h0'
  rw [if_pos rfl]
  unfold writeK
  by_cases h1 : askE st.down [a] = 0
  ·rw [if_pos h1]
   cases h2 : roomE st (getF st.now a).size s.size with
   | true => rw [if_pos rfl]; exact Or.inl ⟨22, by decide, rfl⟩
   | false =>
    rw [if_neg (by simp), changeK_none h.hit]
    exact Or.inr ⟨_, rfl, rfl, fun _ => rfl, rfl, h.okc hi (by decide) ha hz hs (fun e => absurd e (by decide)), ⟨(askE_one h1).2, (fun e => absurd (show (1 : Int) = 2 from e) (by decide))⟩, hs, (fun e => absurd e (by decide)), fun _ => rfl⟩
  ·rw [if_neg h1]; exact Or.inl ⟨_, h1, rfl⟩
 rw [if_neg h0']
 by_cases h2 : k = 2
 ·subst h2
  rw [if_pos rfl]
  unfold moveK
  by_cases h1 : askE st.down [a, b] = 0
  ·rw [if_pos h1]
   by_cases h3 : hasF st.now a = true
   ·rw [if_pos h3]
    by_cases h4 : a = b
    ·rw [if_pos h4]; exact Or.inl ⟨1, by decide, rfl⟩
    ·rw [if_neg h4, changeK_none h.hit]
     exact Or.inr ⟨_, rfl, rfl, fun e => absurd e (by decide), rfl, h.okc hi (by decide) ha hb hz (fun e => absurd e (by decide)), ⟨(askE_two h1).2.1, fun _ => ⟨(askE_two h1).2.2, h4⟩⟩, hz, (fun e => absurd e (by decide)), (fun e => absurd e (by decide))⟩
   ·rw [if_neg h3]; exact Or.inl ⟨4, by decide, rfl⟩
  ·rw [if_neg h1]; exact Or.inl ⟨_, h1, rfl⟩
 rw [if_neg h2]
 by_cases h3 : k = 3
 ·subst h3
  rw [if_pos rfl]
  unfold removeK
  by_cases h1 : askE st.down [a] = 0
  ·rw [if_pos h1]
   by_cases h3 : hasF st.now a = true
   ·rw [if_pos h3, changeK_none h.hit]
    exact Or.inr ⟨_, rfl, rfl, fun e => absurd e (by decide), rfl, h.okc hi (by decide) ha hz hz (fun e => absurd e (by decide)), ⟨(askE_one h1).2, (fun e => absurd (show (3 : Int) = 2 from e) (by decide))⟩, hz, (fun e => absurd e (by decide)), (fun e => absurd e (by decide))⟩
   ·rw [if_neg h3]; exact Or.inl ⟨4, by decide, rfl⟩
  ·rw [if_neg h1]; exact Or.inl ⟨_, h1, rfl⟩
 rw [if_neg h3]
 obtain rfl : k = 4 := by omega
 unfold cutK
 by_cases h1 : askE st.down [a] = 0
 ·rw [if_pos h1]
  by_cases h3 : hasF st.now a = true
  ·rw [if_pos h3]
   by_cases h4 : 0 ≤ n ∧ n ≤ ((getF st.now a).size : Int)
   ·rw [if_pos h4, changeK_none h.hit]
    exact Or.inr ⟨_, rfl, rfl, fun e => absurd e (by decide), rfl, h.okc hi (by decide) ha hz hz (fun _ => h4), ⟨(askE_one h1).2, (fun e => absurd (show (4 : Int) = 2 from e) (by decide))⟩, hz, (fun e => absurd e (by decide)), (fun e => absurd e (by decide))⟩
   ·rw [if_neg h4]; exact Or.inl ⟨1, by decide, rfl⟩
  ·rw [if_neg h3]; exact Or.inl ⟨4, by decide, rfl⟩
 ·rw [if_neg h1]; exact Or.inl ⟨_, h1, rfl⟩
theorem Good.call {i : Nat} {st : DK} (h : Good i st) (hi : i ≤ 1000) {k : Int} {a b s : ByteArray} {n : Int} (hk : 0 ≤ k ∧ k ≤ 4) (ha : a.size ≤ BM) (hb : b.size ≤ BM) (hs : s.size ≤ BM) : Good (i + 1) (callK st k a b s n).1 := by
 rcases call_cases h hi (n := n) hk ha hb hs with ⟨e, _, he⟩ | ⟨c, _, _, _, hc, h1, h2, h3, _⟩
 ·rw [he]; exact h.mono (Nat.le_succ _)
 ·rw [hc]; exact h.add h1 h2 h3
/-! call -/
/-! files -/
def filesL (l : Fs) : List S48 := l.map (fun p => ⟨p.1, p.2⟩)
theorem nameS_size {s : ByteArray} (h : nameS s = true) : s.size ≤ 80 := by
 unfold nameS at h
 rw [Bool.and_eq_true, decide_eq_true_iff] at h
 exact h.2.2
structure Fine (st : DK) : Prop where
 up : st.down = false
 ris : Rises st.now
 named : Named st.now
 len : st.now.length ≤ 1000000
theorem getF_mem : ∀ {l : Fs}, Rises l → ∀ {p : ByteArray × ByteArray}, p ∈ l → getF l p.1 = p.2
 | [], _, _, hp => by cases hp
 | q :: l, hd, p, hp => by
  obtain ⟨g1, g2⟩ := List.pairwise_cons.1 hd
  unfold getF
  rw [List.find?_cons]
  rcases List.mem_cons.1 hp with rfl | hp
  ·rw [sameN_iff.2 rfl]; rfl
  ·have : sameN q.1 p.1 = false := by rw [← Bool.not_eq_true, sameN_iff]; exact ltN_ne (g1 p hp)
   rw [this]
   exact getF_mem g2 hp
theorem Fine.read {st : DK} (h : Fine st) {p : ByteArray × ByteArray} (hp : p ∈ st.now) : readE st p.1 = 0 ∧ readS st p.1 = p.2 := by
 have h0 : askE st.down [p.1] = 0 := by
  unfold askE
  rw [h.up, if_neg (by simp), if_pos (by rw [List.all_cons, h.named p hp]; rfl)]
 have h1 : hasF st.now p.1 = true := hasF_iff.2 ⟨p, hp, rfl⟩
 have h2 : readE st p.1 = 0 := by unfold readE; rw [if_pos h0, if_pos h1]
 refine ⟨h2, ?_⟩
 unfold readS
 rw [if_pos h2]
 exact getF_mem h.ris hp
end Go.Proofs.Ytabngibognlmoaa.Q