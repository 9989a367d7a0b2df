/- Two disks, side by side: what is done to both. -/
import Derived.Outline
import Derived.StillTailTactics
import Derived.Deep.AppendLies
import Derived.Test.YtabngibognlmoaaDr1
namespace Go.Proofs.Ytabngibognlmoaa.Q
open Go.Maps Go.WideShapes Go.WideMaps Go.RowKit Go.Proofs.YtabngibognlmoaaW.PrintWords Go.Proofs.YtabngibognlmoaaW.PrintLast Go.Proofs.YtabngibognlmoaaW.PrintMore
set_option linter.unusedVariables false
set_option linter.unusedSimpArgs false
set_option maxHeartbeats 10000000
set_option maxRecDepth 100000
/-! two disks side by side -/
structure RefM (W : World) (P : Nat → Prop) (v0 v1 v4 : Value) (sure : Fs) (Wt : List S86) (fl : List S90) : Prop where
 s : Kd.V k48 48 W 0 P v0 (filesL sure)
 w : Kd.V k86 86 W 0 P v1 Wt
 f : Kd.V k90 90 W 0 P v4 fl
section
variable {W W' : World} {P P' : Nat → Prop} {v0 v1 v4 : Value} {sure : Fs} {Wt : List S86} {fl : List S90}
theorem RefM.step (h : RefM W P v0 v1 v4 sure Wt fl) (hm : ∀ k, P k → k < W.heap.size → W'.heap[k]? = W.heap[k]?) : RefM W' P v0 v1 v4 sure Wt fl := ⟨Kd.V_step h.s hm, Kd.V_step h.w hm, Kd.V_step h.f hm⟩
theorem RefM.mono (h : RefM W P v0 v1 v4 sure Wt fl) (hp : ∀ k, P k → P' k) : RefM W P' v0 v1 v4 sure Wt fl := ⟨Kd.V_mono h.s hp, Kd.V_mono h.w hp, Kd.V_mono h.f hp⟩
theorem RefM.bound (h : RefM W P v0 v1 v4 sure Wt fl) : RefM W (fun k => P k ∧ k < W.heap.size) v0 v1 v4 sure Wt fl := ⟨Kd.V_bound h.s, Kd.V_bound h.w, Kd.V_bound h.f⟩
theorem RefM.below (h : RefM W P v0 v1 v4 sure Wt fl) (hb : Below W.heap.size W W') : RefM W' P v0 v1 v4 sure Wt fl := h.step (fun k _ hk => hb.block k hk)
theorem RefM.slices (h : RefM W P v0 v1 v4 sure Wt fl) : ∃ A0 c0 A1 c1 A4 c4, v0 = .slice A0 (filesL sure).length c0 ∧ v1 = .slice A1 Wt.length c1 ∧ v4 = .slice A4 fl.length c4 := by
 obtain ⟨A0, c0, e0, _⟩ := h.s
 obtain ⟨A1, c1, e1, _⟩ := h.w
 obtain ⟨A4, c4, e4, _⟩ := h.f
 exact ⟨A0, c0, A1, c1, A4, c4, e0, e1, e4⟩
end
/-- our disk and the document's, in blocks that are not the same -/
def Two (base q0 q1 : Nat) (W : World) (d : Nat) (st : DK) (v0 v1 v4 : Value) (sure : Fs) (Wt : List S86) (fl : List S90) : Prop :=
 ∃ ok, (∀ k, ok k → (base ≤ k ∧ (k ≠ q0 ∧ k ≠ q1)) ∧ k < W.heap.size) ∧ IsD W d ok st ∧ RefM W (fun k => (¬ ok k ∧ (k ≠ q0 ∧ k ≠ q1)) ∧ k < W.heap.size) v0 v1 v4 sure Wt fl
theorem Two.mk' {base q0 q1 : Nat} {W : World} {d : Nat} {st : DK} {v0 v1 v4 : Value} {sure : Fs} {Wt : List S86} {fl : List S90} {ok : Nat → Prop} (h1 : ∀ k, ok k → base ≤ k ∧ (k ≠ q0 ∧ k ≠ q1)) (h2 : IsD W d ok st) (h3 : RefM W (fun k => ¬ ok k ∧ (k ≠ q0 ∧ k ≠ q1)) v0 v1 v4 sure Wt fl) : Two base q0 q1 W d st v0 v1 v4 sure Wt fl :=
 ⟨fun k => ok k ∧ k < W.heap.size, fun k hk => ⟨h1 k hk.1, hk.2⟩, h2.bound, h3.bound.mono (fun k hk => ⟨⟨fun h => hk.1.1 h.1, hk.1.2⟩, hk.2⟩)⟩
theorem Two.below {base q0 q1 : Nat} {W W' : World} {d : Nat} {st : DK} {v0 v1 v4 : Value} {sure : Fs} {Wt : List S86} {fl : List S90} (h : Two base q0 q1 W d st v0 v1 v4 sure Wt fl) (hb : Below W.heap.size W W') : Two base q0 q1 W' d st v0 v1 v4 sure Wt fl := by
 obtain ⟨ok, h1, h2, h3⟩ := h
 exact Two.mk' (fun k hk => (h1 k hk).1) (h2.below hb) ((h3.below hb).mono (fun k hk => hk.1))
theorem Two.far {base q0 q1 : Nat} {W W' : World} {d : Nat} {st : DK} {v0 v1 v4 : Value} {sure : Fs} {Wt : List S86} {fl : List S90} {q : Nat} (h : ∃ ok, (∀ k, ok k → (base ≤ k ∧ (k ≠ q0 ∧ k ≠ q1)) ∧ k ≠ q) ∧ IsD W d ok st ∧ RefM W (fun k => (¬ ok k ∧ (k ≠ q0 ∧ k ≠ q1)) ∧ k ≠ q) v0 v1 v4 sure Wt fl) (hf : ∀ k, k ≠ q → W'.heap[k]? = W.heap[k]?) : Two base q0 q1 W' d st v0 v1 v4 sure Wt fl := by
 obtain ⟨ok, h1, h2, h3⟩ := h
 exact Two.mk' (fun k hk => (h1 k hk).1) (h2.step (fun k hk _ => hf k (h1 k hk).2)) ((h3.step (fun k hk _ => hf k hk.2)).mono (fun k hk => hk.1))
/-- a block beside both is written -/
theorem Two.beside {base q0 q1 : Nat} {W W' : World} {d : Nat} {st : DK} {v0 v1 v4 : Value} {sure : Fs} {Wt : List S86} {fl : List S90} (h : Two base q0 q1 W d st v0 v1 v4 sure Wt fl) (hf : ∀ k, (k ≠ q0 ∧ k ≠ q1) → W'.heap[k]? = W.heap[k]?) : Two base q0 q1 W' d st v0 v1 v4 sure Wt fl := by
 obtain ⟨ok, h1, h2, h3⟩ := h
 exact Two.mk' (fun k hk => (h1 k hk).1) (h2.step (fun k hk _ => hf k (h1 k hk).1.2)) ((h3.step (fun k hk _ => hf k hk.1.2)).mono (fun k hk => hk.1))
abbrev st6 (w : World) (m : Nat) (v0 v1 v2 v3 v4 v5 : Value) : World := (((((w.setCell ⟨m, 0, none⟩ v0).setCell ⟨m, 1, none⟩ v1).setCell ⟨m, 2, none⟩ v2).setCell ⟨m, 3, none⟩ v3).setCell ⟨m, 4, none⟩ v4).setCell ⟨m, 5, none⟩ v5
theorem st6_far (w : World) (m : Nat) (v0 v1 v2 v3 v4 v5 : Value) (k : Nat) (hk : k ≠ m) : (st6 w m v0 v1 v2 v3 v4 v5).heap[k]? = w.heap[k]? := by
 rw [Below.heap_setCell _ _ _ _ hk, Below.heap_setCell _ _ _ _ hk, Below.heap_setCell _ _ _ _ hk, Below.heap_setCell _ _ _ _ hk, Below.heap_setCell _ _ _ _ hk, Below.heap_setCell _ _ _ _ hk]
theorem st6_blk {w : World} {m : Nat} {t : TypeId} {c0 c1 c2 c3 c4 c5 : Value} (h : w.heap[m]? = some (.cells #[c0, c1, c2, c3, c4, c5] t (0, 0))) (v0 v1 v2 v3 v4 v5 : Value) : (st6 w m v0 v1 v2 v3 v4 v5).heap[m]? = some (.cells #[v0, v1, v2, v3, v4, v5] t (0, 0)) :=
 blk_put (blk_put (blk_put (blk_put (blk_put (blk_put h 0 v0 rfl) 1 v1 rfl) 2 v2 rfl) 3 v3 rfl) 4 v4 rfl) 5 v5 rfl
theorem st6_below {w0 w : World} {base m : Nat} (h : Below base w0 w) (hb : base ≤ m) (v0 v1 v2 v3 v4 v5 : Value) : Below base w0 (st6 w m v0 v1 v2 v3 v4 v5) :=
 (((((h.setCell (p := ⟨m, 0, none⟩) hb _).setCell (p := ⟨m, 1, none⟩) hb _).setCell (p := ⟨m, 2, none⟩) hb _).setCell (p := ⟨m, 3, none⟩) hb _).setCell (p := ⟨m, 4, none⟩) hb _).setCell (p := ⟨m, 5, none⟩) hb _
theorem kp_far6 {ok : Nat → Prop} {w0 w : World} {m : Nat} (h : Kp ok w0 w) (hm : ok m) (v0 v1 v2 v3 v4 v5 : Value) : Kp ok w0 (st6 w m v0 v1 v2 v3 v4 v5) :=
 (((((h.set (p := ⟨m, 0, none⟩) hm _).set (p := ⟨m, 1, none⟩) hm _).set (p := ⟨m, 2, none⟩) hm _).set (p := ⟨m, 3, none⟩) hm _).set (p := ⟨m, 4, none⟩) hm _).set (p := ⟨m, 5, none⟩) hm _
theorem st6_size (w : World) (m : Nat) (v0 v1 v2 v3 v4 v5 : Value) : (st6 w m v0 v1 v2 v3 v4 v5).heap.size = w.heap.size := by simp only [st6, World.setCell, Array.size_modify]
theorem al_size (w : World) (o : Obj) : (w.alloc o).heap.size = w.heap.size + 1 := Array.size_push (xs := w.heap) o
/-- three blocks laid one behind the other -/
theorem alloc3 (w : World) (a b c : Obj) : (((w.alloc a).alloc b).alloc c).heap[w.heap.size]? = some a ∧ (((w.alloc a).alloc b).alloc c).heap[w.heap.size + 1]? = some b ∧ (((w.alloc a).alloc b).alloc c).heap[w.heap.size + 2]? = some c ∧ Below w.heap.size w (((w.alloc a).alloc b).alloc c) ∧ (((w.alloc a).alloc b).alloc c).heap.size = w.heap.size + 3 := by
 have s1 := al_size w a
 have s2 := al_size (w.alloc a) b
 have s3 := al_size ((w.alloc a).alloc b) c
 refine ⟨?_, ?_, ?_, below_alloc (below_alloc (below_alloc (Below.refl _ _) _) _) _, by omega⟩
 ·exact (Below.heap_alloc _ c _ (by omega)).trans ((Below.heap_alloc _ b _ (by omega)).trans (heap_alloc_new w a))
 ·refine (Below.heap_alloc _ c _ (by omega)).trans ?_
  rw [← s1]; exact heap_alloc_new _ _
 ·rw [show w.heap.size + 2 = ((w.alloc a).alloc b).heap.size by omega]; exact heap_alloc_new _ _
/-- the document's disk, handed back, laid in a block -/
structure LaidM (w1 wc : World) (m9 : Nat) (o9 : Obj) (P : Nat → Prop) (v0 v1 v4 : Value) (sure : Fs) (Wt : List S86) (fl : List S90) : Prop where
 h9 : wc.heap[m9]? = some o9
 ge : w1.heap.size ≤ m9
 bel : Below w1.heap.size w1 wc
 ref : RefM wc (fun k => (P k ∨ w1.heap.size ≤ k) ∧ k ≠ m9) v0 v1 v4 sure Wt fl
theorem laidm_a {w1 Wc w7 : World} {P : Nat → Prop} {v0 v1 v4 : Value} {sure : Fs} {Wt : List S86} {fl : List S90} (hP : ∀ k, P k → k < w1.heap.size) (hB : Below w1.heap.size w1 w7) (hW : w1.heap.size ≤ Wc.heap.size) (hR : RefM w7 (fun k => (P k ∨ P k ∨ P k) ∨ Wc.heap.size ≤ k) v0 v1 v4 sure Wt fl) (o : Obj) : LaidM w1 (w7.alloc o) w7.heap.size o P v0 v1 v4 sure Wt fl :=
 ⟨heap_alloc_new _ _, hB.size, below_alloc hB _, (hR.bound.below (below_alloc (Below.refl _ _) _)).mono (fun k hk => ⟨hk.1.elim (fun h => Or.inl (h.elim id (fun h => h.elim id id))) (fun h => Or.inr (by omega)), by have := hk.2; omega⟩)⟩
theorem laidm_s {w1 Wc w7 : World} {P : Nat → Prop} {v0 v1 v4 : Value} {sure : Fs} {Wt : List S86} {fl : List S90} {m : Nat} {t : TypeId} {c0 c1 c2 c3 c4 c5 : Value} (hP : ∀ k, P k → k < w1.heap.size) (hB : Below w1.heap.size w1 w7) (hm : w7.heap[m]? = some (.cells #[c0, c1, c2, c3, c4, c5] t (0, 0))) (hm1 : w1.heap.size ≤ m) (hm2 : m < Wc.heap.size) (hR : RefM w7 (fun k => (P k ∨ P k ∨ P k) ∨ Wc.heap.size ≤ k) v0 v1 v4 sure Wt fl) (u0 u1 u2 u3 u4 u5 : Value) : LaidM w1 (st6 w7 m u0 u1 u2 u3 u4 u5) m (.cells #[u0, u1, u2, u3, u4, u5] t (0, 0)) P v0 v1 v4 sure Wt fl := by
 have hne : ∀ k, ((P k ∨ P k ∨ P k) ∨ Wc.heap.size ≤ k) → k ≠ m := fun k hk => by
  rcases hk with hk | hk
  ·have := hP k (hk.elim id (fun h => h.elim id id)); omega
  ·omega
 refine ⟨st6_blk hm _ _ _ _ _ _, hm1, st6_below hB hm1 _ _ _ _ _ _, (hR.step (fun k hk _ => st6_far _ _ _ _ _ _ _ _ k (hne k hk))).mono (fun k hk => ⟨?_, hne k hk⟩)⟩
 exact hk.elim (fun h => Or.inl (h.elim id (fun h => h.elim id id))) (fun h => Or.inr (by omega))
theorem bcell {W w1 : World} (hb : Below W.heap.size W w1) : (∀ b o, b < W.heap.size → w1.cell? ⟨b, o, none⟩ = W.cell? ⟨b, o, none⟩) ∧ (∀ b o, b < W.heap.size → w1.frozen? ⟨b, o, none⟩ = W.frozen? ⟨b, o, none⟩) :=
 ⟨fun b o h => hb.cell (p := ⟨b, o, none⟩) h, fun b o h => hb.frozen (p := ⟨b, o, none⟩) h⟩
theorem lt_al (w : World) (a : Obj) : w.heap.size < (w.alloc a).drew.heap.size := by
 show w.heap.size < (w.alloc a).heap.size
 rw [al_size]; omega
theorem lt_al0 (w : World) (a : Obj) : w.heap.size < (w.alloc a).heap.size := by
 rw [al_size]; omega
theorem Two.drew {base q0 q1 : Nat} {W : World} {d : Nat} {st : DK} {v0 v1 v4 : Value} {sure : Fs} {Wt : List S86} {fl : List S90} (h : Two base q0 q1 W d st v0 v1 v4 sure Wt fl) : Two base q0 q1 W.drew d st v0 v1 v4 sure Wt fl := h.below (below_drew1 (Below.refl _ _))
theorem syncK_rel {i : Nat} {st : DK} {W : List S86} {fl : List S90} {rm : Int} (h : RelA i st W fl rm) : RelA (i + 1) (syncK st) (if st.down = true then W else []) fl rm := by
 refine ⟨⟨h.rel.gp.sync.mono (Nat.le_succ _), ?_, ?_⟩, ?_⟩
 ·unfold syncK
  split
  ·exact h.rel.wait
  ·rfl
 ·unfold syncK
  split
  ·exact h.rel.room
  ·exact h.rel.room
 ·unfold syncK
  split
  ·exact h.falls
  ·exact h.falls
theorem syncK_cd (st : DK) : (syncK st).count = st.count ∧ (syncK st).down = st.down := by
 unfold syncK
 split
 ·exact ⟨rfl, rfl⟩
 ·exact ⟨rfl, rfl⟩
theorem failK_rel {i : Nat} {st : DK} {W : List S86} {fl : List S90} {rm : Int} (h : RelA i st W fl rm) (hi : i ≤ 1000) (keep torn : Int) : ∃ W', Ev (fun q => stowageref04_Disk_Fail.f q (filesL st.sure) W st.count st.down fl rm keep torn) (filesL (failK st keep torn).sure, W', (failK st keep torn).count, (failK st keep torn).down, fl, rm) ∧ RelA (i + 1) (failK st keep torn) W' fl rm := by
 by_cases hd : st.down = true
 ·have e : failK st keep torn = st := if_pos hd
  rw [e]
  refine ⟨W, ?_, h.mono (Nat.le_succ _)⟩
  unfold stowageref04_Disk_Fail.f
  exact Ev.congr (fun q => by rw [if_pos hd]) (Ev.now _)
 ·have hd2 : st.down = false := by simpa using hd
  have e : failK st keep torn = { st with sure := failF st keep torn, now := failF st keep torn, wait := [], down := true } := if_neg hd
  have hg := (h.rel.gp.fail keep torn).mono (Nat.le_succ i)
  have hl := h.rel.gp.len
  rw [e] at hg ⊢
  refine ⟨[], ?_, ⟨⟨hg, rfl, h.rel.room⟩, h.falls⟩⟩
  rw [hd2]
  exact rfail_ev W st h.rel.wait h.rel.gp.ris h.rel.gp.val h.rel.gp.nms (by omega) st.count fl rm keep torn
theorem up_rel {i : Nat} {st : DK} {W : List S86} {fl : List S90} {rm : Int} (h : RelA i st W fl rm) : RelA (i + 1) { st with down := false } W fl rm := ⟨⟨h.rel.gp.up.mono (Nat.le_succ _), h.rel.wait, h.rel.room⟩, h.falls⟩
theorem room_rel {i : Nat} {st : DK} {W : List S86} {fl : List S90} {rm : Int} (h : RelA i st W fl rm) (n : Int) : RelA (i + 1) { st with room := max n (-1) } W fl n := ⟨⟨(h.rel.gp.room _).mono (Nat.le_succ _), h.rel.wait, rfl⟩, h.falls⟩
theorem plan_rel {i : Nat} {st : DK} {W : List S86} {fl : List S90} {rm : Int} (h : RelA i st W fl rm) (l : List Fal) (fl' : List S90) (hl : l.length * 24 ≤ 140737488351232) (he : l = fl'.map toFal) : RelA (i + 1) { st with falls := l } W fl' rm := ⟨⟨(h.rel.gp.plan l hl).mono (Nat.le_succ _), h.rel.wait, h.rel.room⟩, he⟩
def falOf (x : S23) : Fal := ⟨x.f0, x.f1, x.f2⟩
theorem C_falls {w : World} {A : Option Addr} {n : Nat} {l : List S23} (h : Kd.C k23 w A n l) : Kd.C kF w A n (l.map falOf) := by
 obtain ⟨h1, h2, h3⟩ := h
 refine ⟨by rw [List.length_map]; exact h1, h2, fun hn => ?_⟩
 obtain ⟨ad, e, hc⟩ := h3 hn
 refine ⟨ad, e, fun j p hp => ?_⟩
 rw [List.getElem?_map] at hp
 obtain ⟨q, hq, rfl⟩ := Option.map_eq_some_iff.1 hp
 exact hc j q hq
def falTo (x : S23) : S90 := ⟨x.f0, x.f1, x.f2⟩
theorem fal_same (l : List S23) : l.map falOf = (l.map falTo).map toFal := by rw [List.map_map]; rfl
/-- what One leaves -/
def OneP (w0 : World) (q0 q1 : Nat) (W : World) (i : Nat) (e : Ending) (w' : World) : Prop := ∃ (d' : Nat) (st' : DK) (v0' v1' v4' : Value) (Wt' : List S86) (fl' : List S90) (rm' : Int), e = .returned (.tuple #[.pointer (some ⟨d', 0, none⟩), .agg #[v0', v1', .int .i64 st'.count, .bool st'.down, v4', .int .i64 rm'], .bool true]) ∧ Two w0.heap.size q0 q1 w' d' st' v0' v1' v4' st'.sure Wt' fl' ∧ RelA (i + 1) st' Wt' fl' rm' ∧ Below w0.heap.size w0 w' ∧ Kp (fun q => (q ≠ q0 ∧ q ≠ q1)) W w'
theorem one_change {w0 W : World} {d i q0 q1 : Nat} {st : DK} {v0 v1 v4 : Value} {Wt : List S86} {fl : List S90} {rm : Int} (hq0 : q0 < W.heap.size ∧ q1 < W.heap.size) (hT : Two w0.heap.size q0 q1 W d st v0 v1 v4 st.sure Wt fl) (hR : RelA i st Wt fl rm) (hi : i ≤ 500) (hB : Below w0.heap.size w0 W) (k : Int) (a b s : ByteArray) (n x5 x6 x7 : Int) (A : Option Addr) (c : Nat) (pl : List S23) (hpl : Kd.C k23 w0 A pl.length pl) (hplc : pl.length ≤ c) (hpln : pl.length * 24 ≤ 140737488351232) (ha : a.size ≤ BM) (hb : b.size ≤ BM) (hs : s.size ≤ BM) (hk : 0 ≤ k ∧ k ≤ 4) :
  Calls Try.prog 29 #[.pointer (some ⟨d, 0, none⟩), .agg #[v0, v1, .int .i64 st.count, .bool st.down, v4, .int .i64 rm], .agg #[.int .i64 k, .string a, .string b, .string s, .int .i64 n, .int .i64 x5, .int .i64 x6, .int .i64 x7, .slice A pl.length c]] W (OneP w0 q0 q1 W i) := by
 have hu57 := Try.underlying57
 have hua := Try.underlying40
 have huf := Try.underlying23
 obtain ⟨ok, hok, hI, hM⟩ := hT
 obtain ⟨A0, c0, A1, c1, A4, c4, rfl, rfl, rfl⟩ := hM.slices
 obtain ⟨g1, g2, g3, g4, g5⟩ := alloc3 W (.cells #[.slice A0 (filesL st.sure).length c0, .slice A1 Wt.length c1, .int .i64 st.count, .bool st.down, .slice A4 fl.length c4, .int .i64 rm] 57 (0, 0)) (.cells #[.int .i64 k, .string a, .string b, .string s, .int .i64 n, .int .i64 x5, .int .i64 x6, .int .i64 x7, .slice A pl.length c] 40 (0, 0)) (.cells #[.slice none 0 0, .slice none 0 0, .int .i64 0, .bool false, .slice none 0 0, .int .i64 0] 57 (0, 0))
 obtain ⟨w1, hw1⟩ : ∃ w1, w1 = ((W.alloc (.cells #[.slice A0 (filesL st.sure).length c0, .slice A1 Wt.length c1, .int .i64 st.count, .bool st.down, .slice A4 fl.length c4, .int .i64 rm] 57 (0, 0))).alloc (.cells #[.int .i64 k, .string a, .string b, .string s, .int .i64 n, .int .i64 x5, .int .i64 x6, .int .i64 x7, .slice A pl.length c] 40 (0, 0))).alloc (.cells #[.slice none 0 0, .slice none 0 0, .int .i64 0, .bool false, .slice none 0 0, .int .i64 0] 57 (0, 0)) := ⟨_, rfl⟩
 rw [← hw1] at g1 g2 g3 g4 g5
 have X4 := Aside0.mk g1
 have X5 := Aside0.mk g2
 have X7 := Aside0.mk g3
 have B1 := Aside0.mk g4
 have SZ := Aside0.mk g5
 have I1 := Aside0.mk (hI.below g4)
 have M1 := Aside0.mk (hM.below g4)
 have HQ0 := Aside0.mk hq0
 have OKK : Aside0 (∀ q, ok q → w0.heap.size ≤ q ∧ q < W.heap.size) := ⟨fun q h => ⟨(hok q h).1.1, (hok q h).2⟩⟩
 have OKQ : Aside0 (∀ q, ok q → (q ≠ q0 ∧ q ≠ q1)) := ⟨fun q h => (hok q h).1.2⟩
 have KQ1 : Aside0 (Kp (fun q => (q ≠ q0 ∧ q ≠ q1)) W w1) := ⟨Kp.of_below g4⟩
 have HB := Aside0.mk hB
 have HR := Aside0.mk hR
 have HI := Aside0.mk hi
 have HPC := Aside0.mk hplc
 have HPN := Aside0.mk hpln
 have HPL : Aside0 (∀ w', Below w1.heap.size w1 w' → Kd.C k23 w' A pl.length pl) := ⟨fun w' hb => Kd.C_below hpl (hB.trans ((g4.trans (hb.mono g4.size)).mono hB.size))⟩
 have HP0 : Aside0 (∀ w', Below w0.heap.size w0 w' → Kd.C k23 w' A pl.length pl) := ⟨fun w' hb => Kd.C_below hpl hb⟩
 have HSA := Aside0.mk ha
 have HSB := Aside0.mk hb
 have HSS := Aside0.mk hs
 have HK := Aside0.mk hk
 clear hq0 hok hI hM hR hi hB hpl hplc hpln ha hb hs hk g1 g2 g3 g4 g5
 go_enter Try.func29, Try.ntmps29
 go_upto_region 1 with (fail)
 rw [← hw1]
 clear hw1
 have e5_0 := (blk_cell X5.out 0).trans rfl
 have e5_1 := (blk_cell X5.out 1).trans rfl
 have e5_2 := (blk_cell X5.out 2).trans rfl
 have e5_3 := (blk_cell X5.out 3).trans rfl
 have e5_4 := (blk_cell X5.out 4).trans rfl
 have e5_5 := (blk_cell X5.out 5).trans rfl
 have e5_6 := (blk_cell X5.out 6).trans rfl
 have e5_7 := (blk_cell X5.out 7).trans rfl
 have e5_8 := (blk_cell X5.out 8).trans rfl
 have e4_0 := (blk_cell X4.out 0).trans rfl
 have e4_1 := (blk_cell X4.out 1).trans rfl
 have e4_2 := (blk_cell X4.out 2).trans rfl
 have e4_3 := (blk_cell X4.out 3).trans rfl
 have e4_4 := (blk_cell X4.out 4).trans rfl
 have e4_5 := (blk_cell X4.out 5).trans rfl
 go_upto_if 18 with (fail)
 go_cut [18] (fun u18 w_ => u18 = .bool true ∧ w1 = w_)
 case first =>
  by_cases k0 : k = 0
  ·have kq0 : (k == 0) = true := beq_iff_eq.mpr k0
   clear k0
   go_wp2
   go_meet
   case rel => exact ⟨by simp [kq0], rfl⟩
  have kq0 : (k == 0) = false := beq_eq_false_iff_ne.mpr k0
  by_cases k1 : k = 1
  ·have q1 : (k == 1) = true := beq_iff_eq.mpr k1
   clear k1 k0
   go_wp2
   go_meet
   case rel => exact ⟨by simp [q1], rfl⟩
  have q1 : (k == 1) = false := beq_eq_false_iff_ne.mpr k1
  by_cases k2 : k = 2
  ·have q2 : (k == 2) = true := beq_iff_eq.mpr k2
   clear k2 k1 k0
   go_wp2
   go_meet
   case rel => exact ⟨by simp [q2], rfl⟩
  have q2 : (k == 2) = false := beq_eq_false_iff_ne.mpr k2
  by_cases k3 : k = 3
  ·have q3 : (k == 3) = true := beq_iff_eq.mpr k3
   clear k3 k2 k1 k0
   go_wp2
   go_meet
   case rel => exact ⟨by simp [q3], rfl⟩
  have q3 : (k == 3) = false := beq_eq_false_iff_ne.mpr k3
  have q4 : (k == 4) = true := beq_iff_eq.mpr (by have := HK.out; omega)
  clear k3 k2 k1 k0
  go_wp2
  go_meet
  case rel => exact ⟨by simp [q4], rfl⟩
 case rest =>
  obtain ⟨rfl, rfl⟩ := hcut
  obtain ⟨Wn, fn, hme, hRn⟩ := make_ev HR.out (Nat.le_trans HI.out (by decide)) (n := n) HK.out HSA.out HSB.out HSS.out
  obtain ⟨qm, hqm⟩ := hme.rounds
  have HMK := Aside0.mk hqm
  have HRN := Aside0.mk hRn
  clear hme hqm hRn
  go_upto_region 7 with (fail)
  go_cut [9, 10] (fun u9 u10 w2 => ∃ (m9 : Nat) (A0n : Option Addr) (c0n : Nat) (A1n : Option Addr) (c1n : Nat) (A4n : Option Addr) (c4n : Nat), u9 = .pointer (some ⟨m9, 0, none⟩) ∧ u10 = .int .i64 (callK st k a b s n).2 ∧ Aside0 (LaidM w1 w2 m9 (.cells #[.slice A0n (filesL (callK st k a b s n).1.sure).length c0n, .slice A1n Wn.length c1n, .int .i64 (callK st k a b s n).1.count, .bool (callK st k a b s n).1.down, .slice A4n fn.length c4n, .int .i64 rm] 57 (0, 0)) (fun k => (¬ ok k ∧ (k ≠ q0 ∧ k ≠ q1)) ∧ k < W.heap.size) (.slice A0n (filesL (callK st k a b s n).1.sure).length c0n) (.slice A1n Wn.length c1n) (.slice A4n fn.length c4n) (callK st k a b s n).1.sure Wn fn))
  case first =>
   rename_i J1 K1 hJ1 hK1
   have HP : Aside0 (∀ k, (fun k => (¬ ok k ∧ (k ≠ q0 ∧ k ≠ q1)) ∧ k < W.heap.size) k → k < w1.heap.size) := ⟨fun k hk => by have h := hk.2; have := SZ.out; omega⟩
   have HSk : Aside0 (∀ w', Below w1.heap.size w1 w' → w'.cell? ⟨W.heap.size, 0, none⟩ = some (.slice A0 (filesL st.sure).length c0) ∧ w'.cell? ⟨W.heap.size, 1, none⟩ = some (.slice A1 Wt.length c1) ∧ w'.cell? ⟨W.heap.size, 2, none⟩ = some (.int .i64 st.count) ∧ w'.cell? ⟨W.heap.size, 3, none⟩ = some (.bool st.down) ∧ w'.cell? ⟨W.heap.size, 4, none⟩ = some (.slice A4 fl.length c4) ∧ w'.cell? ⟨W.heap.size, 5, none⟩ = some (.int .i64 rm) ∧ w'.cell? ⟨W.heap.size + 1, 0, none⟩ = some (.int .i64 k) ∧ w'.cell? ⟨W.heap.size + 1, 1, none⟩ = some (.string a) ∧ w'.cell? ⟨W.heap.size + 1, 2, none⟩ = some (.string b) ∧ w'.cell? ⟨W.heap.size + 1, 3, none⟩ = some (.string s) ∧ w'.cell? ⟨W.heap.size + 1, 4, none⟩ = some (.int .i64 n) ∧ w'.cell? ⟨W.heap.size + 1, 5, none⟩ = some (.int .i64 x5) ∧ w'.cell? ⟨W.heap.size + 1, 6, none⟩ = some (.int .i64 x6) ∧ w'.cell? ⟨W.heap.size + 1, 7, none⟩ = some (.int .i64 x7) ∧ w'.cell? ⟨W.heap.size + 1, 8, none⟩ = some (.slice A pl.length c)) := ⟨fun w' hb => ⟨(blk_cell (blk_below X4.out hb) 0).trans rfl, (blk_cell (blk_below X4.out hb) 1).trans rfl, (blk_cell (blk_below X4.out hb) 2).trans rfl, (blk_cell (blk_below X4.out hb) 3).trans rfl, (blk_cell (blk_below X4.out hb) 4).trans rfl, (blk_cell (blk_below X4.out hb) 5).trans rfl, (blk_cell (blk_below X5.out hb) 0).trans rfl, (blk_cell (blk_below X5.out hb) 1).trans rfl, (blk_cell (blk_below X5.out hb) 2).trans rfl, (blk_cell (blk_below X5.out hb) 3).trans rfl, (blk_cell (blk_below X5.out hb) 4).trans rfl, (blk_cell (blk_below X5.out hb) 5).trans rfl, (blk_cell (blk_below X5.out hb) 6).trans rfl, (blk_cell (blk_below X5.out hb) 7).trans rfl, (blk_cell (blk_below X5.out hb) 8).trans rfl⟩⟩
   clear e4_0 e4_1 e4_2 e4_3 e4_4 e4_5 e5_0 e5_1 e5_2 e5_3 e5_4 e5_5 e5_6 e5_7 e5_8
   have MP : Aside0 (∀ w', Below w1.heap.size w1 w' → RefM w' (fun k => (¬ ok k ∧ (k ≠ q0 ∧ k ≠ q1)) ∧ k < W.heap.size) (.slice A0 (filesL st.sure).length c0) (.slice A1 Wt.length c1) (.slice A4 fl.length c4) st.sure Wt fl) := ⟨fun w' hb => M1.out.below hb⟩
   go_region_held3 (fun w' => w'.cell? ⟨W.heap.size, 0, none⟩ = some (.slice A0 (filesL st.sure).length c0) ∧ w'.cell? ⟨W.heap.size, 1, none⟩ = some (.slice A1 Wt.length c1) ∧ w'.cell? ⟨W.heap.size, 2, none⟩ = some (.int .i64 st.count) ∧ w'.cell? ⟨W.heap.size, 3, none⟩ = some (.bool st.down) ∧ w'.cell? ⟨W.heap.size, 4, none⟩ = some (.slice A4 fl.length c4) ∧ w'.cell? ⟨W.heap.size, 5, none⟩ = some (.int .i64 rm) ∧ w'.cell? ⟨W.heap.size + 1, 0, none⟩ = some (.int .i64 k) ∧ w'.cell? ⟨W.heap.size + 1, 1, none⟩ = some (.string a) ∧ w'.cell? ⟨W.heap.size + 1, 2, none⟩ = some (.string b) ∧ w'.cell? ⟨W.heap.size + 1, 3, none⟩ = some (.string s) ∧ w'.cell? ⟨W.heap.size + 1, 4, none⟩ = some (.int .i64 n) ∧ w'.cell? ⟨W.heap.size + 1, 5, none⟩ = some (.int .i64 x5) ∧ w'.cell? ⟨W.heap.size + 1, 6, none⟩ = some (.int .i64 x6) ∧ w'.cell? ⟨W.heap.size + 1, 7, none⟩ = some (.int .i64 x7) ∧ w'.cell? ⟨W.heap.size + 1, 8, none⟩ = some (.slice A pl.length c))
    ((refine HSk.out _ ?_; (repeat (first | (with_reducible exact Z7.out.1) | (with_reducible exact Z6.out) | (with_reducible exact Below.refl _ _) | (with_reducible refine below_drew1 ?_) | (with_reducible refine below_alloc ?_ _) | ((with_reducible refine Below.setCell ?_ ?_ _); rotate_left; dsimp only; (first | (with_reducible exact Nat.le_refl _) | (with_reducible exact Z6.out.size)))))))
    ((first
     | (go_at_call 45; (with_reducible refine (stowagelaw04_Made.calls k a b s n x5 x6 x7 A c pl k a b s n _ ?s1 HPC.out rfl).mono ?_); (case s1 => refine HPL.out _ ?_; (repeat (first | (with_reducible exact Below.refl _ _) | (with_reducible refine below_drew1 ?_) | (with_reducible refine below_alloc ?_ _)))); rintro e w6 ⟨rfl, hbl⟩; have Z6 : Aside0 (Below w1.heap.size w1 w6) := ⟨by (with_reducible refine below_step ?_ hbl); (repeat (first | (with_reducible exact Below.refl _ _) | (with_reducible refine below_drew1 ?_) | (with_reducible refine below_alloc ?_ _)))⟩; have HZ6 := Aside0.mk hbl; (try (have hz6 : w1.heap.size < w6.heap.size := by (have h := hbl.size; simp at h; omega))); obtain ⟨hc6, hf6⟩ := bcell hbl; clear hbl)
     | (go_at_call 44; (with_reducible refine (stowageref04_Disk_Make.calls qm (fun k => (¬ ok k ∧ (k ≠ q0 ∧ k ≠ q1)) ∧ k < W.heap.size) A0 c0 (filesL st.sure) (fun k => (¬ ok k ∧ (k ≠ q0 ∧ k ≠ q1)) ∧ k < W.heap.size) A1 c1 Wt st.count st.down (fun k => (¬ ok k ∧ (k ≠ q0 ∧ k ≠ q1)) ∧ k < W.heap.size) A4 c4 fl rm k a b s n _ _ _ _ _ _ _ _ ?s1 ?s2 ?s3 HMK.out).mono ?_); (case s1 => refine (MP.out _ ?_).s; (repeat (first | (with_reducible exact Z6.out) | (with_reducible exact Below.refl _ _) | (with_reducible refine below_drew1 ?_) | (with_reducible refine below_alloc ?_ _)))); (case s2 => refine (MP.out _ ?_).w; (repeat (first | (with_reducible exact Z6.out) | (with_reducible exact Below.refl _ _) | (with_reducible refine below_drew1 ?_) | (with_reducible refine below_alloc ?_ _)))); (case s3 => refine (MP.out _ ?_).f; (repeat (first | (with_reducible exact Z6.out) | (with_reducible exact Below.refl _ _) | (with_reducible refine below_drew1 ?_) | (with_reducible refine below_alloc ?_ _)))); rintro e w7 ⟨y0, y1, y4, rfl, hV0, hV1, hV4, hbl⟩; have Z7 : Aside0 (Below w1.heap.size w1 w7 ∧ RefM w7 (fun k => ((fun k => (¬ ok k ∧ (k ≠ q0 ∧ k ≠ q1)) ∧ k < W.heap.size) k ∨ (fun k => (¬ ok k ∧ (k ≠ q0 ∧ k ≠ q1)) ∧ k < W.heap.size) k ∨ (fun k => (¬ ok k ∧ (k ≠ q0 ∧ k ≠ q1)) ∧ k < W.heap.size) k) ∨ _ ≤ k) y0 y1 y4 (callK st k a b s n).1.sure Wn fn) := ⟨(by (with_reducible refine below_step ?_ hbl); (repeat (first | (with_reducible exact Z6.out) | (with_reducible exact Below.refl _ _) | (with_reducible refine below_drew1 ?_) | (with_reducible refine below_alloc ?_ _)))), hV0, hV1, hV4⟩; obtain ⟨A0n, c0n, A1n, c1n, A4n, c4n, rfl, rfl, rfl⟩ := Z7.out.2.slices; have HZ7 := Aside0.mk hbl; (try (have hz7 : w1.heap.size < w7.heap.size := by (have h := hbl.size; simp at h; omega))); (try (have hz8 : w6.heap.size < w7.heap.size := by (have h := hbl.size; simp at h; omega))); obtain ⟨hc7, hf7⟩ := bcell hbl; clear hV0 hV1 hV4 hbl)))
   ·refine hK1 _ _ (Met.intro (hJ1 _ _ ?_))
    (repeat apply Exists.intro)
    refine ⟨?rel, rfl⟩
    case rel => exact ⟨_, A0n, c0n, A1n, c1n, A4n, c4n, rfl, rfl, ⟨laidm_a (Wc := w6) HP.out Z7.out.1 Z6.out.size Z7.out.2 _⟩⟩
   ·refine hK1 _ _ (Met.intro (hJ1 _ _ ?_))
    (repeat apply Exists.intro)
    refine ⟨?rel, rfl⟩
    case rel => exact ⟨_, A0n, c0n, A1n, c1n, A4n, c4n, rfl, rfl, ⟨laidm_s HP.out Z7.out.1 ((HZ7.out.block _ (lt_al0 _ _)).trans (heap_alloc_new w6 _)) Z6.out.size (lt_al0 _ _) Z7.out.2 _ _ _ _ _ _⟩⟩
   ·refine hK1 _ _ (Met.intro (hJ1 _ _ ?_))
    (repeat apply Exists.intro)
    refine ⟨?rel, rfl⟩
    case rel => exact ⟨_, A0n, c0n, A1n, c1n, A4n, c4n, rfl, rfl, ⟨laidm_s HP.out Z7.out.1 ((HZ7.out.block _ hz6).trans ((HZ6.out.block _ (lt_al _ _)).trans (heap_alloc_new w1 _))) (Nat.le_refl _) hz6 Z7.out.2 _ _ _ _ _ _⟩⟩
  case rest =>
   obtain ⟨m9, A0n, c0n, A1n, c1n, A4n, c4n, rfl, rfl, LD⟩ := hcut
   clear e4_0 e4_1 e4_2 e4_3 e4_4 e4_5 e5_0 e5_1 e5_2 e5_3 e5_4 e5_5 e5_6 e5_7 e5_8
   have X9 := Aside0.mk LD.out.h9
   have Y5 := Aside0.mk (blk_below X5.out LD.out.bel)
   have Y7 := Aside0.mk (blk_below X7.out LD.out.bel)
   have I2 := Aside0.mk (I1.out.below LD.out.bel)
   have N9 : Aside0 (W.heap.size ≤ m9) := ⟨by have := LD.out.ge; have := SZ.out; omega⟩
   have N97 : Aside0 (m9 ≠ W.heap.size + 2) := ⟨by have := LD.out.ge; have := SZ.out; omega⟩
   have R2 := Aside0.mk LD.out.ref
   have B2 : Aside0 (Below w0.heap.size w0 wc) := ⟨(HB.out.trans (B1.out.mono HB.out.size)).trans (LD.out.bel.mono (Nat.le_trans HB.out.size B1.out.size))⟩
   have HBW : Aside0 (w0.heap.size ≤ W.heap.size) := ⟨HB.out.size⟩
   have KQ2 : Aside0 (Kp (fun q => (q ≠ q0 ∧ q ≠ q1)) W wc) := ⟨KQ1.out.trans ((Kp.of_below LD.out.bel))⟩
   have SZ2 : Aside0 (w1.heap.size ≤ wc.heap.size) := ⟨LD.out.bel.size⟩
   clear LD X4 X5 X7 I1 M1 B1 HB HPL
   have L5 := Aside0.mk (blk_lt Y5.out)
   have L7 := Aside0.mk (blk_lt Y7.out)
   have L9 := Aside0.mk (blk_lt X9.out)
   have OK1 : Aside0 (∀ q, (ok q ∨ wc.heap.size ≤ q) → q ≠ W.heap.size + 1 ∧ q ≠ W.heap.size + 2 ∧ q ≠ m9 ∧ w0.heap.size ≤ q ∧ (q ≠ q0 ∧ q ≠ q1)) := ⟨fun q hq => by
    have h0 := HQ0.out
    have h1 := L5.out
    have h2 := L7.out
    have h3 := L9.out
    have h4 := N9.out
    have h5 := SZ.out
    have h6 := B2.out.size
    rcases hq with hq | hq
    ·have := OKK.out q hq
     have := OKQ.out q hq
     omega
    ·omega⟩
   have HSk : Aside0 (∀ w', Kp (fun q => ok q ∨ wc.heap.size ≤ q ∨ q = W.heap.size + 2) wc w' → w'.cell? ⟨m9, 0, none⟩ = some (.slice A0n (filesL (callK st k a b s n).1.sure).length c0n) ∧ w'.cell? ⟨m9, 1, none⟩ = some (.slice A1n Wn.length c1n) ∧ w'.cell? ⟨m9, 2, none⟩ = some (.int .i64 (callK st k a b s n).1.count) ∧ w'.cell? ⟨m9, 3, none⟩ = some (.bool (callK st k a b s n).1.down) ∧ w'.cell? ⟨m9, 4, none⟩ = some (.slice A4n fn.length c4n) ∧ w'.cell? ⟨m9, 5, none⟩ = some (.int .i64 rm) ∧ w'.cell? ⟨W.heap.size + 1, 0, none⟩ = some (.int .i64 k) ∧ w'.cell? ⟨W.heap.size + 1, 1, none⟩ = some (.string a) ∧ w'.cell? ⟨W.heap.size + 1, 2, none⟩ = some (.string b) ∧ w'.cell? ⟨W.heap.size + 1, 3, none⟩ = some (.string s) ∧ w'.cell? ⟨W.heap.size + 1, 4, none⟩ = some (.int .i64 n) ∧ w'.cell? ⟨W.heap.size + 1, 5, none⟩ = some (.int .i64 x5) ∧ w'.cell? ⟨W.heap.size + 1, 6, none⟩ = some (.int .i64 x6) ∧ w'.cell? ⟨W.heap.size + 1, 7, none⟩ = some (.int .i64 x7) ∧ w'.cell? ⟨W.heap.size + 1, 8, none⟩ = some (.slice A pl.length c)) := ⟨fun w' hb => by
    have z9 := (hb.block m9 L9.out (fun h => h.elim (fun h => (OK1.out _ (Or.inl h)).2.2.1 rfl) (fun h => h.elim (fun h => (OK1.out _ (Or.inr h)).2.2.1 rfl) (fun h => N97.out h)))).trans X9.out
    have z5 := (hb.block (W.heap.size + 1) L5.out (fun h => h.elim (fun h => (OK1.out _ (Or.inl h)).1 rfl) (fun h => h.elim (fun h => (OK1.out _ (Or.inr h)).1 rfl) (fun h => by omega)))).trans Y5.out
    exact ⟨(blk_cell z9 0).trans rfl, (blk_cell z9 1).trans rfl, (blk_cell z9 2).trans rfl, (blk_cell z9 3).trans rfl, (blk_cell z9 4).trans rfl, (blk_cell z9 5).trans rfl, (blk_cell z5 0).trans rfl, (blk_cell z5 1).trans rfl, (blk_cell z5 2).trans rfl, (blk_cell z5 3).trans rfl, (blk_cell z5 4).trans rfl, (blk_cell z5 5).trans rfl, (blk_cell z5 6).trans rfl, (blk_cell z5 7).trans rfl, (blk_cell z5 8).trans rfl⟩⟩
   have ID : Aside0 (IsD wc.drew d (fun q => ok q ∨ wc.heap.size ≤ q) st) := ⟨(I2.out.step (W' := wc.drew) (fun _ _ _ => rfl)).mono (fun q hq => Or.inl hq)⟩
   have HNEW : Aside0 (∀ q, wc.drew.heap.size ≤ q → (ok q ∨ wc.heap.size ≤ q)) := ⟨fun q hq => Or.inr hq⟩
   have ZD0 : Aside0 (Kp (fun q => ok q ∨ wc.heap.size ≤ q) wc wc.drew) := ⟨Kp.drew (Kp.refl _ _)⟩
   have ZD : Aside0 (Kp (fun q => ok q ∨ wc.heap.size ≤ q ∨ q = W.heap.size + 2) wc wc.drew) := ⟨Kp.drew (Kp.refl _ _)⟩
   go_upto_region 8 with (fail)
   go_region_held3 (fun w' => w'.cell? ⟨m9, 0, none⟩ = some (.slice A0n (filesL (callK st k a b s n).1.sure).length c0n) ∧ w'.cell? ⟨m9, 1, none⟩ = some (.slice A1n Wn.length c1n) ∧ w'.cell? ⟨m9, 2, none⟩ = some (.int .i64 (callK st k a b s n).1.count) ∧ w'.cell? ⟨m9, 3, none⟩ = some (.bool (callK st k a b s n).1.down) ∧ w'.cell? ⟨m9, 4, none⟩ = some (.slice A4n fn.length c4n) ∧ w'.cell? ⟨m9, 5, none⟩ = some (.int .i64 rm) ∧ w'.cell? ⟨W.heap.size + 1, 0, none⟩ = some (.int .i64 k) ∧ w'.cell? ⟨W.heap.size + 1, 1, none⟩ = some (.string a) ∧ w'.cell? ⟨W.heap.size + 1, 2, none⟩ = some (.string b) ∧ w'.cell? ⟨W.heap.size + 1, 3, none⟩ = some (.string s) ∧ w'.cell? ⟨W.heap.size + 1, 4, none⟩ = some (.int .i64 n) ∧ w'.cell? ⟨W.heap.size + 1, 5, none⟩ = some (.int .i64 x5) ∧ w'.cell? ⟨W.heap.size + 1, 6, none⟩ = some (.int .i64 x6) ∧ w'.cell? ⟨W.heap.size + 1, 7, none⟩ = some (.int .i64 x7) ∧ w'.cell? ⟨W.heap.size + 1, 8, none⟩ = some (.slice A pl.length c))
    ((refine HSk.out _ ?_; (repeat (first | (with_reducible exact Z8.out.2.2) | (with_reducible exact ZD.out) | ((with_reducible refine Kp.set ?_ ?_ _); rotate_left; (exact Or.inr (Or.inr rfl)))))))
    ((go_at_call 21; (with_reducible refine (call_gp ID.out HNEW.out HR.out.rel.gp (Nat.le_trans HI.out (by decide)) k a b s n x5 x6 x7 A pl.length c HK.out HSA.out HSB.out HSS.out).mono ?_); rintro e w8 ⟨rfl, hI8, hK8⟩; have Z8 : Aside0 (IsD w8 d (fun q => ok q ∨ wc.heap.size ≤ q) (callK st k a b s n).1 ∧ Kp (fun q => ok q ∨ wc.heap.size ≤ q) wc w8 ∧ Kp (fun q => ok q ∨ wc.heap.size ≤ q ∨ q = W.heap.size + 2) wc w8) := ⟨hI8, ZD0.out.trans hK8, (ZD0.out.trans hK8).mono (fun q _ h => h.elim Or.inl (fun h => Or.inr (Or.inl h)))⟩; have Y8 := Aside0.mk ((Z8.out.2.1.block (W.heap.size + 2) L7.out (fun h => (OK1.out _ h).2.1 rfl)).trans Y7.out); have g7_0 := (blk_cell Y8.out 0).trans rfl; have g7_1 := (blk_cell Y8.out 1).trans rfl; have g7_2 := (blk_cell Y8.out 2).trans rfl; have g7_3 := (blk_cell Y8.out 3).trans rfl; have g7_4 := (blk_cell Y8.out 4).trans rfl; have g7_5 := (blk_cell Y8.out 5).trans rfl; have h7_0 := blk_frozen Y8.out 0; have h7_1 := blk_frozen Y8.out 1; have h7_2 := blk_frozen Y8.out 2; have h7_3 := blk_frozen Y8.out 3; have h7_4 := blk_frozen Y8.out 4; have h7_5 := blk_frozen Y8.out 5; clear hI8 hK8))
   have TW : Aside0 (Two w0.heap.size q0 q1 (st6 w8 (W.heap.size + 2) (.slice A0n (filesL (callK st k a b s n).1.sure).length c0n) (.slice A1n Wn.length c1n) (.int .i64 (callK st k a b s n).1.count) (.bool (callK st k a b s n).1.down) (.slice A4n fn.length c4n) (.int .i64 rm)) d (callK st k a b s n).1 (.slice A0n (filesL (callK st k a b s n).1.sure).length c0n) (.slice A1n Wn.length c1n) (.slice A4n fn.length c4n) (callK st k a b s n).1.sure Wn fn) := ⟨by
    refine Two.far (q := W.heap.size + 2) ⟨fun q => ok q ∨ wc.heap.size ≤ q, fun q hq => ⟨(OK1.out q hq).2.2.2, (OK1.out q hq).2.1⟩, Z8.out.1, ?_⟩ (fun q hq => st6_far _ _ _ _ _ _ _ _ q hq)
    have hin : ∀ q, (((fun k => (¬ ok k ∧ (k ≠ q0 ∧ k ≠ q1)) ∧ k < W.heap.size) q ∨ w1.heap.size ≤ q) ∧ q ≠ m9) ∧ q < wc.heap.size → (¬ (ok q ∨ wc.heap.size ≤ q) ∧ (q ≠ q0 ∧ q ≠ q1)) ∧ q ≠ W.heap.size + 2 := fun q hq => by
     have h5 := SZ.out
     have h6 := HQ0.out
     rcases hq.1.1 with h | h
     ·exact ⟨⟨fun h2 => h2.elim (fun h2 => h.1.1 h2) (fun h2 => by omega), h.1.2⟩, by have := h.2; omega⟩
     ·exact ⟨⟨fun h2 => h2.elim (fun h2 => by have := OKK.out q h2; omega) (fun h2 => by omega), by omega⟩, by omega⟩
    exact ((R2.out.bound.step (fun q hq hlt => Z8.out.2.1.block q hlt (hin q hq).1.1)).mono hin)⟩
   have KE : Aside0 (Kp (fun q => (q ≠ q0 ∧ q ≠ q1)) W (st6 w8 (W.heap.size + 2) (.slice A0n (filesL (callK st k a b s n).1.sure).length c0n) (.slice A1n Wn.length c1n) (.int .i64 (callK st k a b s n).1.count) (.bool (callK st k a b s n).1.down) (.slice A4n fn.length c4n) (.int .i64 rm))) := ⟨kp_far6 (KQ2.out.trans (Z8.out.2.1.mono (fun q _ h => (OK1.out q h).2.2.2.2))) (by have := HQ0.out; omega) (.slice A0n (filesL (callK st k a b s n).1.sure).length c0n) (.slice A1n Wn.length c1n) (.int .i64 (callK st k a b s n).1.count) (.bool (callK st k a b s n).1.down) (.slice A4n fn.length c4n) (.int .i64 rm)⟩
   have BE : Aside0 (Below w0.heap.size w0 (st6 w8 (W.heap.size + 2) (.slice A0n (filesL (callK st k a b s n).1.sure).length c0n) (.slice A1n Wn.length c1n) (.int .i64 (callK st k a b s n).1.count) (.bool (callK st k a b s n).1.down) (.slice A4n fn.length c4n) (.int .i64 rm))) := ⟨st6_below (B2.out.trans ((Z8.out.2.1.mono (fun q _ h => (OK1.out q h).2.2.2.1)).below B2.out.size)) (by have := B2.out.size; have := L7.out; have h := (HBW.out); omega) _ _ _ _ _ _⟩
   have YE : Aside0 ((st6 w8 (W.heap.size + 2) (.slice A0n (filesL (callK st k a b s n).1.sure).length c0n) (.slice A1n Wn.length c1n) (.int .i64 (callK st k a b s n).1.count) (.bool (callK st k a b s n).1.down) (.slice A4n fn.length c4n) (.int .i64 rm)).heap[W.heap.size + 2]? = some (.cells #[.slice A0n (filesL (callK st k a b s n).1.sure).length c0n, .slice A1n Wn.length c1n, .int .i64 (callK st k a b s n).1.count, .bool (callK st k a b s n).1.down, .slice A4n fn.length c4n, .int .i64 rm] 57 (0, 0))) := ⟨st6_blk Y8.out _ _ _ _ _ _⟩
   go_wp2
   refine bodyPost_ret (results_list (rs := [.tmp 6, .cell 7 57, .tmp 8]) rfl (by simp) (.tmp (.cell (W.heap.size + 2) 57 #[.slice A0n (filesL (callK st k a b s n).1.sure).length c0n, .slice A1n Wn.length c1n, .int .i64 (callK st k a b s n).1.count, .bool (callK st k a b s n).1.down, .slice A4n fn.length c4n, .int .i64 rm] (0, 0) _ rfl YE.out Try.underlying57 rfl (by kernel_rfl) (.tmp .nil)))) rfl ?_
   exact ⟨d, (callK st k a b s n).1, _, _, _, Wn, fn, rm, rfl, TW.out, HRN.out, BE.out, KE.out⟩
theorem one_sync {w0 W : World} {d i q0 q1 : Nat} {st : DK} {v0 v1 v4 : Value} {Wt : List S86} {fl : List S90} {rm : Int} (hq0 : q0 < W.heap.size ∧ q1 < W.heap.size) (hT : Two w0.heap.size q0 q1 W d st v0 v1 v4 st.sure Wt fl) (hR : RelA i st Wt fl rm) (hi : i ≤ 500) (hB : Below w0.heap.size w0 W) (k : Int) (a b s : ByteArray) (n x5 x6 x7 : Int) (A : Option Addr) (c : Nat) (pl : List S23) (hpl : Kd.C k23 w0 A pl.length pl) (hplc : pl.length ≤ c) (hpln : pl.length * 24 ≤ 140737488351232) (ha : a.size ≤ BM) (hb : b.size ≤ BM) (hs : s.size ≤ BM) (hk : k = 5) :
  Calls Try.prog 29 #[.pointer (some ⟨d, 0, none⟩), .agg #[v0, v1, .int .i64 st.count, .bool st.down, v4, .int .i64 rm], .agg #[.int .i64 k, .string a, .string b, .string s, .int .i64 n, .int .i64 x5, .int .i64 x6, .int .i64 x7, .slice A pl.length c]] W (OneP w0 q0 q1 W i) := by
 have hu57 := Try.underlying57
 have hua := Try.underlying40
 have huf := Try.underlying23
 obtain ⟨ok, hok, hI, hM⟩ := hT
 obtain ⟨A0, c0, A1, c1, A4, c4, rfl, rfl, rfl⟩ := hM.slices
 obtain ⟨g1, g2, g3, g4, g5⟩ := alloc3 W (.cells #[.slice A0 (filesL st.sure).length c0, .slice A1 Wt.length c1, .int .i64 st.count, .bool st.down, .slice A4 fl.length c4, .int .i64 rm] 57 (0, 0)) (.cells #[.int .i64 k, .string a, .string b, .string s, .int .i64 n, .int .i64 x5, .int .i64 x6, .int .i64 x7, .slice A pl.length c] 40 (0, 0)) (.cells #[.slice none 0 0, .slice none 0 0, .int .i64 0, .bool false, .slice none 0 0, .int .i64 0] 57 (0, 0))
 obtain ⟨w1, hw1⟩ : ∃ w1, w1 = ((W.alloc (.cells #[.slice A0 (filesL st.sure).length c0, .slice A1 Wt.length c1, .int .i64 st.count, .bool st.down, .slice A4 fl.length c4, .int .i64 rm] 57 (0, 0))).alloc (.cells #[.int .i64 k, .string a, .string b, .string s, .int .i64 n, .int .i64 x5, .int .i64 x6, .int .i64 x7, .slice A pl.length c] 40 (0, 0))).alloc (.cells #[.slice none 0 0, .slice none 0 0, .int .i64 0, .bool false, .slice none 0 0, .int .i64 0] 57 (0, 0)) := ⟨_, rfl⟩
 rw [← hw1] at g1 g2 g3 g4 g5
 have X4 := Aside0.mk g1
 have X5 := Aside0.mk g2
 have X7 := Aside0.mk g3
 have B1 := Aside0.mk g4
 have SZ := Aside0.mk g5
 have I1 := Aside0.mk (hI.below g4)
 have M1 := Aside0.mk (hM.below g4)
 have HQ0 := Aside0.mk hq0
 have OKK : Aside0 (∀ q, ok q → w0.heap.size ≤ q ∧ q < W.heap.size) := ⟨fun q h => ⟨(hok q h).1.1, (hok q h).2⟩⟩
 have OKQ : Aside0 (∀ q, ok q → (q ≠ q0 ∧ q ≠ q1)) := ⟨fun q h => (hok q h).1.2⟩
 have KQ1 : Aside0 (Kp (fun q => (q ≠ q0 ∧ q ≠ q1)) W w1) := ⟨Kp.of_below g4⟩
 have HB := Aside0.mk hB
 have HR := Aside0.mk hR
 have HI := Aside0.mk hi
 have HPC := Aside0.mk hplc
 have HPN := Aside0.mk hpln
 have HPL : Aside0 (∀ w', Below w1.heap.size w1 w' → Kd.C k23 w' A pl.length pl) := ⟨fun w' hb => Kd.C_below hpl (hB.trans ((g4.trans (hb.mono g4.size)).mono hB.size))⟩
 have HP0 : Aside0 (∀ w', Below w0.heap.size w0 w' → Kd.C k23 w' A pl.length pl) := ⟨fun w' hb => Kd.C_below hpl hb⟩
 have HSA := Aside0.mk ha
 have HSB := Aside0.mk hb
 have HSS := Aside0.mk hs
 have HK := Aside0.mk hk
 clear hq0 hok hI hM hR hi hB hpl hplc hpln ha hb hs hk g1 g2 g3 g4 g5
 go_enter Try.func29, Try.ntmps29
 go_upto_region 1 with (fail)
 rw [← hw1]
 clear hw1
 have e5_0 := (blk_cell X5.out 0).trans rfl
 have e5_1 := (blk_cell X5.out 1).trans rfl
 have e5_2 := (blk_cell X5.out 2).trans rfl
 have e5_3 := (blk_cell X5.out 3).trans rfl
 have e5_4 := (blk_cell X5.out 4).trans rfl
 have e5_5 := (blk_cell X5.out 5).trans rfl
 have e5_6 := (blk_cell X5.out 6).trans rfl
 have e5_7 := (blk_cell X5.out 7).trans rfl
 have e5_8 := (blk_cell X5.out 8).trans rfl
 have e4_0 := (blk_cell X4.out 0).trans rfl
 have e4_1 := (blk_cell X4.out 1).trans rfl
 have e4_2 := (blk_cell X4.out 2).trans rfl
 have e4_3 := (blk_cell X4.out 3).trans rfl
 have e4_4 := (blk_cell X4.out 4).trans rfl
 have e4_5 := (blk_cell X4.out 5).trans rfl
 have kq0 : (k == 0) = false := beq_eq_false_iff_ne.mpr (by have := HK.out; omega)
 have kq1 : (k == 1) = false := beq_eq_false_iff_ne.mpr (by have := HK.out; omega)
 have kq2 : (k == 2) = false := beq_eq_false_iff_ne.mpr (by have := HK.out; omega)
 have kq3 : (k == 3) = false := beq_eq_false_iff_ne.mpr (by have := HK.out; omega)
 have kq4 : (k == 4) = false := beq_eq_false_iff_ne.mpr (by have := HK.out; omega)
 have q5 : (k == 5) = true := beq_iff_eq.mpr HK.out
 obtain ⟨Wn, hWn⟩ : ∃ Wn, Wn = if st.down = true then Wt else [] := ⟨_, rfl⟩
 obtain ⟨qm, hqm⟩ := (rsync_ev HR.out.rel (Nat.le_trans HI.out (by decide)) st.count fl).rounds
 rw [← hWn] at hqm
 have HMK := Aside0.mk hqm
 have HRN : Aside0 (RelA (i + 1) (syncK st) Wn fl rm) := ⟨hWn ▸ syncK_rel HR.out⟩
 clear hqm hWn
 have HP : Aside0 (∀ k, (fun k => (¬ ok k ∧ (k ≠ q0 ∧ k ≠ q1)) ∧ k < W.heap.size) k → k < w1.heap.size) := ⟨fun k hk => by have h := hk.2; have := SZ.out; omega⟩
 go_wp2_with (fail)
 refine (stowageref04_Disk_Sync.calls qm (fun k => (¬ ok k ∧ (k ≠ q0 ∧ k ≠ q1)) ∧ k < W.heap.size) A0 c0 (filesL st.sure) (fun k => (¬ ok k ∧ (k ≠ q0 ∧ k ≠ q1)) ∧ k < W.heap.size) A1 c1 Wt st.count st.down (fun k => (¬ ok k ∧ (k ≠ q0 ∧ k ≠ q1)) ∧ k < W.heap.size) A4 c4 fl rm _ _ _ _ _ _ _ w1 M1.out.s M1.out.w M1.out.f HMK.out).mono ?_
 rintro e w7 ⟨y0, y1, y4, rfl, hV0, hV1, hV4, hbl⟩
 have RM : RefM w7 (fun k => ((fun k => (¬ ok k ∧ (k ≠ q0 ∧ k ≠ q1)) ∧ k < W.heap.size) k ∨ (fun k => (¬ ok k ∧ (k ≠ q0 ∧ k ≠ q1)) ∧ k < W.heap.size) k ∨ (fun k => (¬ ok k ∧ (k ≠ q0 ∧ k ≠ q1)) ∧ k < W.heap.size) k) ∨ w1.heap.size ≤ k) y0 y1 y4 (syncK st).sure Wn fl := ⟨hV0, hV1, hV4⟩
 obtain ⟨A0n, c0n, A1n, c1n, A4n, c4n, rfl, rfl, rfl⟩ := RM.slices
 have hcd := syncK_cd st
 rw [← hcd.1]
 have hd3 : (Value.bool st.down) = .bool (syncK st).down := by rw [hcd.2]
 rw [hd3]
 have LD := Aside0.mk (laidm_a (Wc := w1) HP.out hbl (Nat.le_refl _) RM (.cells #[.slice A0n (filesL (syncK st).sure).length c0n, .slice A1n Wn.length c1n, .int .i64 (syncK st).count, .bool (syncK st).down, .slice A4n fl.length c4n, .int .i64 rm] 57 (0, 0)))
 obtain ⟨m9, hm9⟩ : ∃ m9, m9 = w7.heap.size := ⟨_, rfl⟩
 clear hV0 hV1 hV4 hbl RM hcd hd3 e4_0 e4_1 e4_2 e4_3 e4_4 e4_5 e5_0 e5_1 e5_2 e5_3 e5_4 e5_5 e5_6 e5_7 e5_8
 go_upto_region 11 with (fail)
 rw [← hm9] at LD ⊢
 clear hm9
 generalize w7.alloc (.cells #[.slice A0n (filesL (syncK st).sure).length c0n, .slice A1n Wn.length c1n, .int .i64 (syncK st).count, .bool (syncK st).down, .slice A4n fl.length c4n, .int .i64 rm] 57 (0, 0)) = wc at LD ⊢
 have X9 := Aside0.mk LD.out.h9
 have Y5 := Aside0.mk (blk_below X5.out LD.out.bel)
 have Y7 := Aside0.mk (blk_below X7.out LD.out.bel)
 have I2 := Aside0.mk (I1.out.below LD.out.bel)
 have N9 : Aside0 (W.heap.size ≤ m9) := ⟨by have := LD.out.ge; have := SZ.out; omega⟩
 have N97 : Aside0 (m9 ≠ W.heap.size + 2) := ⟨by have := LD.out.ge; have := SZ.out; omega⟩
 have R2 := Aside0.mk LD.out.ref
 have B2 : Aside0 (Below w0.heap.size w0 wc) := ⟨(HB.out.trans (B1.out.mono HB.out.size)).trans (LD.out.bel.mono (Nat.le_trans HB.out.size B1.out.size))⟩
 have HBW : Aside0 (w0.heap.size ≤ W.heap.size) := ⟨HB.out.size⟩
 have KQ2 : Aside0 (Kp (fun q => (q ≠ q0 ∧ q ≠ q1)) W wc) := ⟨KQ1.out.trans (Kp.of_below LD.out.bel)⟩
 clear LD X4 X5 X7 I1 M1 B1 HB HPL
 have L5 := Aside0.mk (blk_lt Y5.out)
 have L7 := Aside0.mk (blk_lt Y7.out)
 have L9 := Aside0.mk (blk_lt X9.out)
 have OK1 : Aside0 (∀ q, (ok q ∨ wc.heap.size ≤ q) → q ≠ W.heap.size + 1 ∧ q ≠ W.heap.size + 2 ∧ q ≠ m9 ∧ w0.heap.size ≤ q ∧ (q ≠ q0 ∧ q ≠ q1)) := ⟨fun q hq => by
  have h0 := HQ0.out
  have h1 := L5.out
  have h2 := L7.out
  have h3 := L9.out
  have h4 := N9.out
  have h5 := SZ.out
  have h6 := B2.out.size
  rcases hq with hq | hq
  ·have := OKK.out q hq
   have := OKQ.out q hq
   omega
  ·omega⟩
 have HSk : Aside0 (∀ w', Kp (fun q => ok q ∨ wc.heap.size ≤ q ∨ q = W.heap.size + 2) wc w' → w'.cell? ⟨m9, 0, none⟩ = some (.slice A0n (filesL (syncK st).sure).length c0n) ∧ w'.cell? ⟨m9, 1, none⟩ = some (.slice A1n Wn.length c1n) ∧ w'.cell? ⟨m9, 2, none⟩ = some (.int .i64 (syncK st).count) ∧ w'.cell? ⟨m9, 3, none⟩ = some (.bool (syncK st).down) ∧ w'.cell? ⟨m9, 4, none⟩ = some (.slice A4n fl.length c4n) ∧ w'.cell? ⟨m9, 5, none⟩ = some (.int .i64 rm)) := ⟨fun w' hb => by
  have z9 := (hb.block m9 L9.out (fun h => h.elim (fun h => (OK1.out _ (Or.inl h)).2.2.1 rfl) (fun h => h.elim (fun h => (OK1.out _ (Or.inr h)).2.2.1 rfl) (fun h => N97.out h)))).trans X9.out
  have z5 := (hb.block (W.heap.size + 1) L5.out (fun h => h.elim (fun h => (OK1.out _ (Or.inl h)).1 rfl) (fun h => h.elim (fun h => (OK1.out _ (Or.inr h)).1 rfl) (fun h => by omega)))).trans Y5.out
  exact ⟨(blk_cell z9 0).trans rfl, (blk_cell z9 1).trans rfl, (blk_cell z9 2).trans rfl, (blk_cell z9 3).trans rfl, (blk_cell z9 4).trans rfl, (blk_cell z9 5).trans rfl⟩⟩
 have ID : Aside0 (IsD wc.drew d (fun q => ok q ∨ wc.heap.size ≤ q) st) := ⟨(I2.out.step (W' := wc.drew) (fun _ _ _ => rfl)).mono (fun q hq => Or.inl hq)⟩
 have HNEW : Aside0 (∀ q, wc.drew.heap.size ≤ q → (ok q ∨ wc.heap.size ≤ q)) := ⟨fun q hq => Or.inr hq⟩
 have ZD0 : Aside0 (Kp (fun q => ok q ∨ wc.heap.size ≤ q) wc wc.drew) := ⟨Kp.drew (Kp.refl _ _)⟩
 have ZD : Aside0 (Kp (fun q => ok q ∨ wc.heap.size ≤ q ∨ q = W.heap.size + 2) wc wc.drew) := ⟨Kp.drew (Kp.refl _ _)⟩
 go_upto_region 11 with (fail)
 go_region_held3 (fun w' => w'.cell? ⟨m9, 0, none⟩ = some (.slice A0n (filesL (syncK st).sure).length c0n) ∧ w'.cell? ⟨m9, 1, none⟩ = some (.slice A1n Wn.length c1n) ∧ w'.cell? ⟨m9, 2, none⟩ = some (.int .i64 (syncK st).count) ∧ w'.cell? ⟨m9, 3, none⟩ = some (.bool (syncK st).down) ∧ w'.cell? ⟨m9, 4, none⟩ = some (.slice A4n fl.length c4n) ∧ w'.cell? ⟨m9, 5, none⟩ = some (.int .i64 rm))
  ((refine HSk.out _ ?_; (repeat (first | (with_reducible exact Z8.out.2.2) | (with_reducible exact ZD.out) | ((with_reducible refine Kp.set ?_ ?_ _); rotate_left; (exact Or.inr (Or.inr rfl)))))))
  ((go_at_call 12; (with_reducible refine (sync_calls ID.out HNEW.out).mono ?_); rintro e w8 ⟨rfl, hI8, hK8⟩; have Z8 : Aside0 (IsD w8 d (fun q => ok q ∨ wc.heap.size ≤ q) (syncK st) ∧ Kp (fun q => ok q ∨ wc.heap.size ≤ q) wc w8 ∧ Kp (fun q => ok q ∨ wc.heap.size ≤ q ∨ q = W.heap.size + 2) wc w8) := ⟨hI8, ZD0.out.trans hK8, (ZD0.out.trans hK8).mono (fun q _ h => h.elim Or.inl (fun h => Or.inr (Or.inl h)))⟩; have Y8 := Aside0.mk ((Z8.out.2.1.block (W.heap.size + 2) L7.out (fun h => (OK1.out _ h).2.1 rfl)).trans Y7.out); have g7_0 := (blk_cell Y8.out 0).trans rfl; have g7_1 := (blk_cell Y8.out 1).trans rfl; have g7_2 := (blk_cell Y8.out 2).trans rfl; have g7_3 := (blk_cell Y8.out 3).trans rfl; have g7_4 := (blk_cell Y8.out 4).trans rfl; have g7_5 := (blk_cell Y8.out 5).trans rfl; have h7_0 := blk_frozen Y8.out 0; have h7_1 := blk_frozen Y8.out 1; have h7_2 := blk_frozen Y8.out 2; have h7_3 := blk_frozen Y8.out 3; have h7_4 := blk_frozen Y8.out 4; have h7_5 := blk_frozen Y8.out 5; clear hI8 hK8))
 have TW : Aside0 (Two w0.heap.size q0 q1 (st6 w8 (W.heap.size + 2) (.slice A0n (filesL (syncK st).sure).length c0n) (.slice A1n Wn.length c1n) (.int .i64 (syncK st).count) (.bool (syncK st).down) (.slice A4n fl.length c4n) (.int .i64 rm)) d (syncK st) (.slice A0n (filesL (syncK st).sure).length c0n) (.slice A1n Wn.length c1n) (.slice A4n fl.length c4n) (syncK st).sure Wn fl) := ⟨by
  refine Two.far (q := W.heap.size + 2) ⟨fun q => ok q ∨ wc.heap.size ≤ q, fun q hq => ⟨(OK1.out q hq).2.2.2, (OK1.out q hq).2.1⟩, Z8.out.1, ?_⟩ (fun q hq => st6_far _ _ _ _ _ _ _ _ q hq)
  have hin : ∀ q, (((fun k => (¬ ok k ∧ (k ≠ q0 ∧ k ≠ q1)) ∧ k < W.heap.size) q ∨ w1.heap.size ≤ q) ∧ q ≠ m9) ∧ q < wc.heap.size → (¬ (ok q ∨ wc.heap.size ≤ q) ∧ (q ≠ q0 ∧ q ≠ q1)) ∧ q ≠ W.heap.size + 2 := fun q hq => by
   have h5 := SZ.out
   have h6 := HQ0.out
   rcases hq.1.1 with h | h
   ·exact ⟨⟨fun h2 => h2.elim (fun h2 => h.1.1 h2) (fun h2 => by omega), h.1.2⟩, by have := h.2; omega⟩
   ·exact ⟨⟨fun h2 => h2.elim (fun h2 => by have := OKK.out q h2; omega) (fun h2 => by omega), by omega⟩, by omega⟩
  exact ((R2.out.bound.step (fun q hq hlt => Z8.out.2.1.block q hlt (hin q hq).1.1)).mono hin)⟩
 have KE : Aside0 (Kp (fun q => (q ≠ q0 ∧ q ≠ q1)) W (st6 w8 (W.heap.size + 2) (.slice A0n (filesL (syncK st).sure).length c0n) (.slice A1n Wn.length c1n) (.int .i64 (syncK st).count) (.bool (syncK st).down) (.slice A4n fl.length c4n) (.int .i64 rm))) := ⟨kp_far6 (KQ2.out.trans (Z8.out.2.1.mono (fun q _ h => (OK1.out q h).2.2.2.2))) (by have := HQ0.out; omega) (.slice A0n (filesL (syncK st).sure).length c0n) (.slice A1n Wn.length c1n) (.int .i64 (syncK st).count) (.bool (syncK st).down) (.slice A4n fl.length c4n) (.int .i64 rm)⟩
 have BE : Aside0 (Below w0.heap.size w0 (st6 w8 (W.heap.size + 2) (.slice A0n (filesL (syncK st).sure).length c0n) (.slice A1n Wn.length c1n) (.int .i64 (syncK st).count) (.bool (syncK st).down) (.slice A4n fl.length c4n) (.int .i64 rm))) := ⟨st6_below (B2.out.trans ((Z8.out.2.1.mono (fun q _ h => (OK1.out q h).2.2.2.1)).below B2.out.size)) (by have := B2.out.size; have := L7.out; have h := (HBW.out); omega) _ _ _ _ _ _⟩
 have YE : Aside0 ((st6 w8 (W.heap.size + 2) (.slice A0n (filesL (syncK st).sure).length c0n) (.slice A1n Wn.length c1n) (.int .i64 (syncK st).count) (.bool (syncK st).down) (.slice A4n fl.length c4n) (.int .i64 rm)).heap[W.heap.size + 2]? = some (.cells #[.slice A0n (filesL (syncK st).sure).length c0n, .slice A1n Wn.length c1n, .int .i64 (syncK st).count, .bool (syncK st).down, .slice A4n fl.length c4n, .int .i64 rm] 57 (0, 0))) := ⟨st6_blk Y8.out _ _ _ _ _ _⟩
 go_wp2
 refine bodyPost_ret (results_list (rs := [.tmp 6, .cell 7 57, .tmp 8]) rfl (by simp) (.tmp (.cell (W.heap.size + 2) 57 #[.slice A0n (filesL (syncK st).sure).length c0n, .slice A1n Wn.length c1n, .int .i64 (syncK st).count, .bool (syncK st).down, .slice A4n fl.length c4n, .int .i64 rm] (0, 0) _ rfl YE.out Try.underlying57 rfl (by kernel_rfl) (.tmp .nil)))) rfl ?_
 exact ⟨d, (syncK st), _, _, _, Wn, fl, rm, rfl, TW.out, HRN.out, BE.out, KE.out⟩
theorem one_fail {w0 W : World} {d i q0 q1 : Nat} {st : DK} {v0 v1 v4 : Value} {Wt : List S86} {fl : List S90} {rm : Int} (hq0 : q0 < W.heap.size ∧ q1 < W.heap.size) (hT : Two w0.heap.size q0 q1 W d st v0 v1 v4 st.sure Wt fl) (hR : RelA i st Wt fl rm) (hi : i ≤ 500) (hB : Below w0.heap.size w0 W) (k : Int) (a b s : ByteArray) (n x5 x6 x7 : Int) (A : Option Addr) (c : Nat) (pl : List S23) (hpl : Kd.C k23 w0 A pl.length pl) (hplc : pl.length ≤ c) (hpln : pl.length * 24 ≤ 140737488351232) (ha : a.size ≤ BM) (hb : b.size ≤ BM) (hs : s.size ≤ BM) (hk : k = 6) :
  Calls Try.prog 29 #[.pointer (some ⟨d, 0, none⟩), .agg #[v0, v1, .int .i64 st.count, .bool st.down, v4, .int .i64 rm], .agg #[.int .i64 k, .string a, .string b, .string s, .int .i64 n, .int .i64 x5, .int .i64 x6, .int .i64 x7, .slice A pl.length c]] W (OneP w0 q0 q1 W i) := by
 have hu57 := Try.underlying57
 have hua := Try.underlying40
 have huf := Try.underlying23
 obtain ⟨ok, hok, hI, hM⟩ := hT
 obtain ⟨A0, c0, A1, c1, A4, c4, rfl, rfl, rfl⟩ := hM.slices
 obtain ⟨g1, g2, g3, g4, g5⟩ := alloc3 W (.cells #[.slice A0 (filesL st.sure).length c0, .slice A1 Wt.length c1, .int .i64 st.count, .bool st.down, .slice A4 fl.length c4, .int .i64 rm] 57 (0, 0)) (.cells #[.int .i64 k, .string a, .string b, .string s, .int .i64 n, .int .i64 x5, .int .i64 x6, .int .i64 x7, .slice A pl.length c] 40 (0, 0)) (.cells #[.slice none 0 0, .slice none 0 0, .int .i64 0, .bool false, .slice none 0 0, .int .i64 0] 57 (0, 0))
 obtain ⟨w1, hw1⟩ : ∃ w1, w1 = ((W.alloc (.cells #[.slice A0 (filesL st.sure).length c0, .slice A1 Wt.length c1, .int .i64 st.count, .bool st.down, .slice A4 fl.length c4, .int .i64 rm] 57 (0, 0))).alloc (.cells #[.int .i64 k, .string a, .string b, .string s, .int .i64 n, .int .i64 x5, .int .i64 x6, .int .i64 x7, .slice A pl.length c] 40 (0, 0))).alloc (.cells #[.slice none 0 0, .slice none 0 0, .int .i64 0, .bool false, .slice none 0 0, .int .i64 0] 57 (0, 0)) := ⟨_, rfl⟩
 rw [← hw1] at g1 g2 g3 g4 g5
 have X4 := Aside0.mk g1
 have X5 := Aside0.mk g2
 have X7 := Aside0.mk g3
 have B1 := Aside0.mk g4
 have SZ := Aside0.mk g5
 have I1 := Aside0.mk (hI.below g4)
 have M1 := Aside0.mk (hM.below g4)
 have HQ0 := Aside0.mk hq0
 have OKK : Aside0 (∀ q, ok q → w0.heap.size ≤ q ∧ q < W.heap.size) := ⟨fun q h => ⟨(hok q h).1.1, (hok q h).2⟩⟩
 have OKQ : Aside0 (∀ q, ok q → (q ≠ q0 ∧ q ≠ q1)) := ⟨fun q h => (hok q h).1.2⟩
 have KQ1 : Aside0 (Kp (fun q => (q ≠ q0 ∧ q ≠ q1)) W w1) := ⟨Kp.of_below g4⟩
 have HB := Aside0.mk hB
 have HR := Aside0.mk hR
 have HI := Aside0.mk hi
 have HPC := Aside0.mk hplc
 have HPN := Aside0.mk hpln
 have HPL : Aside0 (∀ w', Below w1.heap.size w1 w' → Kd.C k23 w' A pl.length pl) := ⟨fun w' hb => Kd.C_below hpl (hB.trans ((g4.trans (hb.mono g4.size)).mono hB.size))⟩
 have HP0 : Aside0 (∀ w', Below w0.heap.size w0 w' → Kd.C k23 w' A pl.length pl) := ⟨fun w' hb => Kd.C_below hpl hb⟩
 have HSA := Aside0.mk ha
 have HSB := Aside0.mk hb
 have HSS := Aside0.mk hs
 have HK := Aside0.mk hk
 clear hq0 hok hI hM hR hi hB hpl hplc hpln ha hb hs hk g1 g2 g3 g4 g5
 go_enter Try.func29, Try.ntmps29
 go_upto_region 1 with (fail)
 rw [← hw1]
 clear hw1
 have e5_0 := (blk_cell X5.out 0).trans rfl
 have e5_1 := (blk_cell X5.out 1).trans rfl
 have e5_2 := (blk_cell X5.out 2).trans rfl
 have e5_3 := (blk_cell X5.out 3).trans rfl
 have e5_4 := (blk_cell X5.out 4).trans rfl
 have e5_5 := (blk_cell X5.out 5).trans rfl
 have e5_6 := (blk_cell X5.out 6).trans rfl
 have e5_7 := (blk_cell X5.out 7).trans rfl
 have e5_8 := (blk_cell X5.out 8).trans rfl
 have e4_0 := (blk_cell X4.out 0).trans rfl
 have e4_1 := (blk_cell X4.out 1).trans rfl
 have e4_2 := (blk_cell X4.out 2).trans rfl
 have e4_3 := (blk_cell X4.out 3).trans rfl
 have e4_4 := (blk_cell X4.out 4).trans rfl
 have e4_5 := (blk_cell X4.out 5).trans rfl
 have kq0 : (k == 0) = false := beq_eq_false_iff_ne.mpr (by have := HK.out; omega)
 have kq1 : (k == 1) = false := beq_eq_false_iff_ne.mpr (by have := HK.out; omega)
 have kq2 : (k == 2) = false := beq_eq_false_iff_ne.mpr (by have := HK.out; omega)
 have kq3 : (k == 3) = false := beq_eq_false_iff_ne.mpr (by have := HK.out; omega)
 have kq4 : (k == 4) = false := beq_eq_false_iff_ne.mpr (by have := HK.out; omega)
 have kq5 : (k == 5) = false := beq_eq_false_iff_ne.mpr (by have := HK.out; omega)
 have q6 : (k == 6) = true := beq_iff_eq.mpr HK.out
 obtain ⟨Wn, hme, hRn⟩ := failK_rel HR.out (Nat.le_trans HI.out (by decide)) x6 x7
 obtain ⟨qm, hqm⟩ := hme.rounds
 have HMK := Aside0.mk hqm
 have HRN := Aside0.mk hRn
 clear hme hqm hRn
 have LX4 := Aside0.mk (blk_lt X4.out)
 have LX5 := Aside0.mk (blk_lt X5.out)
 have LX7 := Aside0.mk (blk_lt X7.out)
 have OK1 : Aside0 (∀ q, (ok q ∨ w1.heap.size ≤ q) → q ≠ W.heap.size ∧ q ≠ W.heap.size + 1 ∧ q ≠ W.heap.size + 2 ∧ w0.heap.size ≤ q ∧ (q ≠ q0 ∧ q ≠ q1)) := ⟨fun q hq => by
  have h1 := SZ.out
  have h2 := HB.out.size
  have h3 := HQ0.out
  rcases hq with hq | hq
  ·have := OKK.out q hq
   have := OKQ.out q hq
   omega
  ·omega⟩
 have OKP : Aside0 (∀ q, (fun k => (¬ ok k ∧ (k ≠ q0 ∧ k ≠ q1)) ∧ k < W.heap.size) q → ¬ (ok q ∨ w1.heap.size ≤ q) ∧ q ≠ W.heap.size ∧ q ≠ W.heap.size + 1 ∧ q ≠ W.heap.size + 2 ∧ (q ≠ q0 ∧ q ≠ q1)) := ⟨fun q hq => by
  have h1 := SZ.out
  have h2 := hq.2
  exact ⟨fun h => h.elim hq.1.1 (fun h => by omega), by omega, by omega, by omega, hq.1.2⟩⟩
 have ID1 : Aside0 (IsD w1 d (fun q => ok q ∨ w1.heap.size ≤ q) st) := ⟨I1.out.mono (fun q hq => Or.inl hq)⟩
 have HN1 : Aside0 (∀ q, w1.heap.size ≤ q → (ok q ∨ w1.heap.size ≤ q)) := ⟨fun q hq => Or.inr hq⟩
 have B01 : Aside0 (Below w0.heap.size w0 w1) := ⟨HB.out.trans (B1.out.mono HB.out.size)⟩
 go_wp2_with (fail)
 refine (fail_calls ID1.out HN1.out HR.out.rel.gp.val x6 x7).mono ?_
 rintro e w6 ⟨rfl, hI6, hK6⟩
 have Y4 := Aside0.mk ((hK6.block W.heap.size LX4.out (fun h => (OK1.out _ h).1 rfl)).trans X4.out)
 have Y5 := Aside0.mk ((hK6.block (W.heap.size + 1) LX5.out (fun h => (OK1.out _ h).2.1 rfl)).trans X5.out)
 have Y7 := Aside0.mk ((hK6.block (W.heap.size + 2) LX7.out (fun h => (OK1.out _ h).2.2.1 rfl)).trans X7.out)
 have M6 := Aside0.mk (M1.out.step (fun q hq hlt => hK6.block q hlt (OKP.out q hq).1))
 have I6 := Aside0.mk hI6
 have B6 : Aside0 (Below w0.heap.size w0 w6) := ⟨B01.out.trans ((hK6.mono (fun q _ h => (OK1.out q h).2.2.2.1)).below B01.out.size)⟩
 have KQ6 : Aside0 (Kp (fun q => (q ≠ q0 ∧ q ≠ q1)) W w6) := ⟨KQ1.out.trans (hK6.mono (fun q _ h => (OK1.out q h).2.2.2.2))⟩
 clear hI6 hK6 e4_0 e4_1 e4_2 e4_3 e4_4 e4_5 e5_0 e5_1 e5_2 e5_3 e5_4 e5_5 e5_6 e5_7 e5_8 X4 X5 X7 I1 ID1 M1
 have e5_0 := (blk_cell Y5.out 0).trans rfl
 have e5_1 := (blk_cell Y5.out 1).trans rfl
 have e5_2 := (blk_cell Y5.out 2).trans rfl
 have e5_3 := (blk_cell Y5.out 3).trans rfl
 have e5_4 := (blk_cell Y5.out 4).trans rfl
 have e5_5 := (blk_cell Y5.out 5).trans rfl
 have e5_6 := (blk_cell Y5.out 6).trans rfl
 have e5_7 := (blk_cell Y5.out 7).trans rfl
 have e5_8 := (blk_cell Y5.out 8).trans rfl
 have e4_0 := (blk_cell Y4.out 0).trans rfl
 have e4_1 := (blk_cell Y4.out 1).trans rfl
 have e4_2 := (blk_cell Y4.out 2).trans rfl
 have e4_3 := (blk_cell Y4.out 3).trans rfl
 have e4_4 := (blk_cell Y4.out 4).trans rfl
 have e4_5 := (blk_cell Y4.out 5).trans rfl
 go_wp2_with (fail)
 refine (stowageref04_Disk_Fail.calls qm (fun k => (¬ ok k ∧ (k ≠ q0 ∧ k ≠ q1)) ∧ k < W.heap.size) A0 c0 (filesL st.sure) (fun k => (¬ ok k ∧ (k ≠ q0 ∧ k ≠ q1)) ∧ k < W.heap.size) A1 c1 Wt st.count st.down (fun k => (¬ ok k ∧ (k ≠ q0 ∧ k ≠ q1)) ∧ k < W.heap.size) A4 c4 fl rm x6 x7 _ _ _ _ _ _ w6 M6.out.s M6.out.w M6.out.f HMK.out).mono ?_
 rintro e w7 ⟨y0, y1, y4, rfl, hV0, hV1, hV4, hbl⟩
 have RM : RefM w7 (fun k => ((fun k => (¬ ok k ∧ (k ≠ q0 ∧ k ≠ q1)) ∧ k < W.heap.size) k ∨ (fun k => (¬ ok k ∧ (k ≠ q0 ∧ k ≠ q1)) ∧ k < W.heap.size) k ∨ (fun k => (¬ ok k ∧ (k ≠ q0 ∧ k ≠ q1)) ∧ k < W.heap.size) k) ∨ w6.heap.size ≤ k) y0 y1 y4 (failK st x6 x7).sure Wn fl := ⟨hV0, hV1, hV4⟩
 obtain ⟨A0n, c0n, A1n, c1n, A4n, c4n, rfl, rfl, rfl⟩ := RM.slices
 have Y8 := Aside0.mk (blk_below Y7.out hbl)
 have L6 := Aside0.mk (blk_lt Y7.out)
 have RM7 := Aside0.mk RM
 have B7 : Aside0 (Below w0.heap.size w0 w7) := ⟨B6.out.trans (hbl.mono B6.out.size)⟩
 have KQ7 : Aside0 (Kp (fun q => (q ≠ q0 ∧ q ≠ q1)) W w7) := ⟨KQ6.out.trans (Kp.of_below hbl)⟩
 have I7 : Aside0 (IsD w7 d (fun q => (ok q ∨ w1.heap.size ≤ q) ∧ q < w6.heap.size) (failK st x6 x7)) := ⟨I6.out.bound.below hbl⟩
 clear hV0 hV1 hV4 hbl RM Y7 Y4 Y5 e4_0 e4_1 e4_2 e4_3 e4_4 e4_5 e5_0 e5_1 e5_2 e5_3 e5_4 e5_5 e5_6 e5_7 e5_8 I6 M6
 have g7_0 := (blk_cell Y8.out 0).trans rfl
 have g7_1 := (blk_cell Y8.out 1).trans rfl
 have g7_2 := (blk_cell Y8.out 2).trans rfl
 have g7_3 := (blk_cell Y8.out 3).trans rfl
 have g7_4 := (blk_cell Y8.out 4).trans rfl
 have g7_5 := (blk_cell Y8.out 5).trans rfl
 have h7_0 := blk_frozen Y8.out 0
 have h7_1 := blk_frozen Y8.out 1
 have h7_2 := blk_frozen Y8.out 2
 have h7_3 := blk_frozen Y8.out 3
 have h7_4 := blk_frozen Y8.out 4
 have h7_5 := blk_frozen Y8.out 5
 have TW : Aside0 (Two w0.heap.size q0 q1 (st6 w7 (W.heap.size + 2) (.slice A0n (filesL (failK st x6 x7).sure).length c0n) (.slice A1n Wn.length c1n) (.int .i64 (failK st x6 x7).count) (.bool (failK st x6 x7).down) (.slice A4n fl.length c4n) (.int .i64 rm)) d (failK st x6 x7) (.slice A0n (filesL (failK st x6 x7).sure).length c0n) (.slice A1n Wn.length c1n) (.slice A4n fl.length c4n) (failK st x6 x7).sure Wn fl) := ⟨by
  refine Two.far (q := W.heap.size + 2) ⟨_, fun q hq => ⟨(OK1.out q hq.1).2.2.2, (OK1.out q hq.1).2.2.1⟩, I7.out, ?_⟩ (fun q hq => st6_far _ _ _ _ _ _ _ _ q hq)
  refine RM7.out.mono (fun q hq => ?_)
  rcases hq with hq | hq
  ·have h := OKP.out q (hq.elim id (fun h => h.elim id id))
   exact ⟨⟨fun h2 => h.1 h2.1, h.2.2.2.2⟩, h.2.2.2.1⟩
  ·exact ⟨⟨fun h2 => by have := h2.2; omega, by have := L6.out; have := HQ0.out; omega⟩, by have := L6.out; omega⟩⟩
 have KE : Aside0 (Kp (fun q => (q ≠ q0 ∧ q ≠ q1)) W (st6 w7 (W.heap.size + 2) (.slice A0n (filesL (failK st x6 x7).sure).length c0n) (.slice A1n Wn.length c1n) (.int .i64 (failK st x6 x7).count) (.bool (failK st x6 x7).down) (.slice A4n fl.length c4n) (.int .i64 rm))) := ⟨kp_far6 KQ7.out (by have := HQ0.out; omega) (.slice A0n (filesL (failK st x6 x7).sure).length c0n) (.slice A1n Wn.length c1n) (.int .i64 (failK st x6 x7).count) (.bool (failK st x6 x7).down) (.slice A4n fl.length c4n) (.int .i64 rm)⟩
 have BE : Aside0 (Below w0.heap.size w0 (st6 w7 (W.heap.size + 2) (.slice A0n (filesL (failK st x6 x7).sure).length c0n) (.slice A1n Wn.length c1n) (.int .i64 (failK st x6 x7).count) (.bool (failK st x6 x7).down) (.slice A4n fl.length c4n) (.int .i64 rm))) := ⟨st6_below B7.out (by have := HB.out.size; omega) _ _ _ _ _ _⟩
 have YE : Aside0 ((st6 w7 (W.heap.size + 2) (.slice A0n (filesL (failK st x6 x7).sure).length c0n) (.slice A1n Wn.length c1n) (.int .i64 (failK st x6 x7).count) (.bool (failK st x6 x7).down) (.slice A4n fl.length c4n) (.int .i64 rm)).heap[W.heap.size + 2]? = some (.cells #[.slice A0n (filesL (failK st x6 x7).sure).length c0n, .slice A1n Wn.length c1n, .int .i64 (failK st x6 x7).count, .bool (failK st x6 x7).down, .slice A4n fl.length c4n, .int .i64 rm] 57 (0, 0))) := ⟨st6_blk Y8.out _ _ _ _ _ _⟩
 go_wp2
 refine bodyPost_ret (results_list (rs := [.tmp 6, .cell 7 57, .tmp 8]) rfl (by simp) (.tmp (.cell (W.heap.size + 2) 57 #[.slice A0n (filesL (failK st x6 x7).sure).length c0n, .slice A1n Wn.length c1n, .int .i64 (failK st x6 x7).count, .bool (failK st x6 x7).down, .slice A4n fl.length c4n, .int .i64 rm] (0, 0) _ rfl YE.out Try.underlying57 rfl (by kernel_rfl) (.tmp .nil)))) rfl ?_
 exact ⟨d, (failK st x6 x7), _, _, _, Wn, fl, rm, rfl, TW.out, HRN.out, BE.out, KE.out⟩
theorem one_room {w0 W : World} {d i q0 q1 : Nat} {st : DK} {v0 v1 v4 : Value} {Wt : List S86} {fl : List S90} {rm : Int} (hq0 : q0 < W.heap.size ∧ q1 < W.heap.size) (hT : Two w0.heap.size q0 q1 W d st v0 v1 v4 st.sure Wt fl) (hR : RelA i st Wt fl rm) (hi : i ≤ 500) (hB : Below w0.heap.size w0 W) (k : Int) (a b s : ByteArray) (n x5 x6 x7 : Int) (A : Option Addr) (c : Nat) (pl : List S23) (hpl : Kd.C k23 w0 A pl.length pl) (hplc : pl.length ≤ c) (hpln : pl.length * 24 ≤ 140737488351232) (ha : a.size ≤ BM) (hb : b.size ≤ BM) (hs : s.size ≤ BM) (hk : k = 9) :
  Calls Try.prog 29 #[.pointer (some ⟨d, 0, none⟩), .agg #[v0, v1, .int .i64 st.count, .bool st.down, v4, .int .i64 rm], .agg #[.int .i64 k, .string a, .string b, .string s, .int .i64 n, .int .i64 x5, .int .i64 x6, .int .i64 x7, .slice A pl.length c]] W (OneP w0 q0 q1 W i) := by
 have hu57 := Try.underlying57
 have hua := Try.underlying40
 have huf := Try.underlying23
 obtain ⟨ok, hok, hI, hM⟩ := hT
 obtain ⟨A0, c0, A1, c1, A4, c4, rfl, rfl, rfl⟩ := hM.slices
 obtain ⟨g1, g2, g3, g4, g5⟩ := alloc3 W (.cells #[.slice A0 (filesL st.sure).length c0, .slice A1 Wt.length c1, .int .i64 st.count, .bool st.down, .slice A4 fl.length c4, .int .i64 rm] 57 (0, 0)) (.cells #[.int .i64 k, .string a, .string b, .string s, .int .i64 n, .int .i64 x5, .int .i64 x6, .int .i64 x7, .slice A pl.length c] 40 (0, 0)) (.cells #[.slice none 0 0, .slice none 0 0, .int .i64 0, .bool false, .slice none 0 0, .int .i64 0] 57 (0, 0))
 obtain ⟨w1, hw1⟩ : ∃ w1, w1 = ((W.alloc (.cells #[.slice A0 (filesL st.sure).length c0, .slice A1 Wt.length c1, .int .i64 st.count, .bool st.down, .slice A4 fl.length c4, .int .i64 rm] 57 (0, 0))).alloc (.cells #[.int .i64 k, .string a, .string b, .string s, .int .i64 n, .int .i64 x5, .int .i64 x6, .int .i64 x7, .slice A pl.length c] 40 (0, 0))).alloc (.cells #[.slice none 0 0, .slice none 0 0, .int .i64 0, .bool false, .slice none 0 0, .int .i64 0] 57 (0, 0)) := ⟨_, rfl⟩
 rw [← hw1] at g1 g2 g3 g4 g5
 have X4 := Aside0.mk g1
 have X5 := Aside0.mk g2
 have X7 := Aside0.mk g3
 have B1 := Aside0.mk g4
 have SZ := Aside0.mk g5
 have I1 := Aside0.mk (hI.below g4)
 have M1 := Aside0.mk (hM.below g4)
 have HQ0 := Aside0.mk hq0
 have OKK : Aside0 (∀ q, ok q → w0.heap.size ≤ q ∧ q < W.heap.size) := ⟨fun q h => ⟨(hok q h).1.1, (hok q h).2⟩⟩
 have OKQ : Aside0 (∀ q, ok q → (q ≠ q0 ∧ q ≠ q1)) := ⟨fun q h => (hok q h).1.2⟩
 have KQ1 : Aside0 (Kp (fun q => (q ≠ q0 ∧ q ≠ q1)) W w1) := ⟨Kp.of_below g4⟩
 have HB := Aside0.mk hB
 have HR := Aside0.mk hR
 have HI := Aside0.mk hi
 have HPC := Aside0.mk hplc
 have HPN := Aside0.mk hpln
 have HPL : Aside0 (∀ w', Below w1.heap.size w1 w' → Kd.C k23 w' A pl.length pl) := ⟨fun w' hb => Kd.C_below hpl (hB.trans ((g4.trans (hb.mono g4.size)).mono hB.size))⟩
 have HP0 : Aside0 (∀ w', Below w0.heap.size w0 w' → Kd.C k23 w' A pl.length pl) := ⟨fun w' hb => Kd.C_below hpl hb⟩
 have HSA := Aside0.mk ha
 have HSB := Aside0.mk hb
 have HSS := Aside0.mk hs
 have HK := Aside0.mk hk
 clear hq0 hok hI hM hR hi hB hpl hplc hpln ha hb hs hk g1 g2 g3 g4 g5
 go_enter Try.func29, Try.ntmps29
 go_upto_region 1 with (fail)
 rw [← hw1]
 clear hw1
 have e5_0 := (blk_cell X5.out 0).trans rfl
 have e5_1 := (blk_cell X5.out 1).trans rfl
 have e5_2 := (blk_cell X5.out 2).trans rfl
 have e5_3 := (blk_cell X5.out 3).trans rfl
 have e5_4 := (blk_cell X5.out 4).trans rfl
 have e5_5 := (blk_cell X5.out 5).trans rfl
 have e5_6 := (blk_cell X5.out 6).trans rfl
 have e5_7 := (blk_cell X5.out 7).trans rfl
 have e5_8 := (blk_cell X5.out 8).trans rfl
 have e4_0 := (blk_cell X4.out 0).trans rfl
 have e4_1 := (blk_cell X4.out 1).trans rfl
 have e4_2 := (blk_cell X4.out 2).trans rfl
 have e4_3 := (blk_cell X4.out 3).trans rfl
 have e4_4 := (blk_cell X4.out 4).trans rfl
 have e4_5 := (blk_cell X4.out 5).trans rfl
 have kq0 : (k == 0) = false := beq_eq_false_iff_ne.mpr (by have := HK.out; omega)
 have kq1 : (k == 1) = false := beq_eq_false_iff_ne.mpr (by have := HK.out; omega)
 have kq2 : (k == 2) = false := beq_eq_false_iff_ne.mpr (by have := HK.out; omega)
 have kq3 : (k == 3) = false := beq_eq_false_iff_ne.mpr (by have := HK.out; omega)
 have kq4 : (k == 4) = false := beq_eq_false_iff_ne.mpr (by have := HK.out; omega)
 have kq5 : (k == 5) = false := beq_eq_false_iff_ne.mpr (by have := HK.out; omega)
 have kq6 : (k == 6) = false := beq_eq_false_iff_ne.mpr (by have := HK.out; omega)
 have kq7 : (k == 7) = false := beq_eq_false_iff_ne.mpr (by have := HK.out; omega)
 have kq8 : (k == 8) = false := beq_eq_false_iff_ne.mpr (by have := HK.out; omega)
 have q9 : (k == 9) = true := beq_iff_eq.mpr HK.out
 have HRN := Aside0.mk (room_rel HR.out n)
 have LX4 := Aside0.mk (blk_lt X4.out)
 have LX5 := Aside0.mk (blk_lt X5.out)
 have LX7 := Aside0.mk (blk_lt X7.out)
 have OK1 : Aside0 (∀ q, (ok q ∨ w1.heap.size ≤ q) → q ≠ W.heap.size ∧ q ≠ W.heap.size + 1 ∧ q ≠ W.heap.size + 2 ∧ w0.heap.size ≤ q ∧ (q ≠ q0 ∧ q ≠ q1)) := ⟨fun q hq => by
  have h1 := SZ.out
  have h2 := HB.out.size
  have h3 := HQ0.out
  rcases hq with hq | hq
  ·have := OKK.out q hq
   have := OKQ.out q hq
   omega
  ·omega⟩
 have OKP : Aside0 (∀ q, (fun k => (¬ ok k ∧ (k ≠ q0 ∧ k ≠ q1)) ∧ k < W.heap.size) q → ¬ (ok q ∨ w1.heap.size ≤ q) ∧ q ≠ W.heap.size ∧ q ≠ W.heap.size + 1 ∧ q ≠ W.heap.size + 2 ∧ (q ≠ q0 ∧ q ≠ q1)) := ⟨fun q hq => by
  have h1 := SZ.out
  have h2 := hq.2
  exact ⟨fun h => h.elim hq.1.1 (fun h => by omega), by omega, by omega, by omega, hq.1.2⟩⟩
 have ID1 : Aside0 (IsD w1 d (fun q => ok q ∨ w1.heap.size ≤ q) st) := ⟨I1.out.mono (fun q hq => Or.inl hq)⟩
 have HN1 : Aside0 (∀ q, w1.heap.size ≤ q → (ok q ∨ w1.heap.size ≤ q)) := ⟨fun q hq => Or.inr hq⟩
 have B01 : Aside0 (Below w0.heap.size w0 w1) := ⟨HB.out.trans (B1.out.mono HB.out.size)⟩
 go_wp2_with (fail)
 refine (room_calls ID1.out n).mono ?_
 rintro e w6 ⟨rfl, hI6, hK6⟩
 have Y4 := Aside0.mk ((hK6.block W.heap.size LX4.out (fun h => (OK1.out _ h).1 rfl)).trans X4.out)
 have Y5 := Aside0.mk ((hK6.block (W.heap.size + 1) LX5.out (fun h => (OK1.out _ h).2.1 rfl)).trans X5.out)
 have Y7 := Aside0.mk ((hK6.block (W.heap.size + 2) LX7.out (fun h => (OK1.out _ h).2.2.1 rfl)).trans X7.out)
 have M6 := Aside0.mk (M1.out.step (fun q hq hlt => hK6.block q hlt (OKP.out q hq).1))
 have I6 := Aside0.mk hI6
 have B6 : Aside0 (Below w0.heap.size w0 w6) := ⟨B01.out.trans ((hK6.mono (fun q _ h => (OK1.out q h).2.2.2.1)).below B01.out.size)⟩
 have KQ6 : Aside0 (Kp (fun q => (q ≠ q0 ∧ q ≠ q1)) W w6) := ⟨KQ1.out.trans (hK6.mono (fun q _ h => (OK1.out q h).2.2.2.2))⟩
 clear hI6 hK6 e4_0 e4_1 e4_2 e4_3 e4_4 e4_5 e5_0 e5_1 e5_2 e5_3 e5_4 e5_5 e5_6 e5_7 e5_8 X4 X5 X7 I1 ID1 M1
 have e5_0 := (blk_cell Y5.out 0).trans rfl
 have e5_1 := (blk_cell Y5.out 1).trans rfl
 have e5_2 := (blk_cell Y5.out 2).trans rfl
 have e5_3 := (blk_cell Y5.out 3).trans rfl
 have e5_4 := (blk_cell Y5.out 4).trans rfl
 have e5_5 := (blk_cell Y5.out 5).trans rfl
 have e5_6 := (blk_cell Y5.out 6).trans rfl
 have e5_7 := (blk_cell Y5.out 7).trans rfl
 have e5_8 := (blk_cell Y5.out 8).trans rfl
 have e4_0 := (blk_cell Y4.out 0).trans rfl
 have e4_1 := (blk_cell Y4.out 1).trans rfl
 have e4_2 := (blk_cell Y4.out 2).trans rfl
 have e4_3 := (blk_cell Y4.out 3).trans rfl
 have e4_4 := (blk_cell Y4.out 4).trans rfl
 have e4_5 := (blk_cell Y4.out 5).trans rfl
 have f4_0 := blk_frozen Y4.out 0
 have f4_1 := blk_frozen Y4.out 1
 have f4_2 := blk_frozen Y4.out 2
 have f4_3 := blk_frozen Y4.out 3
 have f4_4 := blk_frozen Y4.out 4
 have f4_5 := blk_frozen Y4.out 5
 go_upto_region 30 with (fail)
 have Y4' := Aside0.mk (blk_put (cs' := #[.slice A0 (filesL st.sure).length c0, .slice A1 Wt.length c1, .int .i64 st.count, .bool st.down, .slice A4 fl.length c4, .int .i64 n]) Y4.out 5 (.int .i64 n) rfl)
 have far : ∀ q, q ≠ W.heap.size → (w6.setCell ⟨W.heap.size, 5, none⟩ (.int .i64 n)).heap[q]? = w6.heap[q]? := fun q hq => Below.heap_setCell _ _ _ q hq
 have Y8 := Aside0.mk ((far (W.heap.size + 2) (by omega)).trans Y7.out)
 have IC : Aside0 (IsD (w6.setCell ⟨W.heap.size, 5, none⟩ (.int .i64 n)) d (fun q => ok q ∨ w1.heap.size ≤ q) ({ st with room := max n (-1) } : DK)) := ⟨I6.out.step (fun q hq _ => far q (OK1.out q hq).1)⟩
 have MC := Aside0.mk (M6.out.step (fun q hq _ => far q (OKP.out q hq).2.1))
 have BC : Aside0 (Below w0.heap.size w0 (w6.setCell ⟨W.heap.size, 5, none⟩ (.int .i64 n))) := ⟨B6.out.setCell (by show w0.heap.size ≤ W.heap.size; exact HB.out.size) _⟩
 have HBW : Aside0 (w0.heap.size ≤ W.heap.size) := ⟨HB.out.size⟩
 have OKD : Aside0 (∀ q, (ok q ∨ w1.heap.size ≤ q) → q ≠ W.heap.size + 2 ∧ w0.heap.size ≤ q ∧ (q ≠ q0 ∧ q ≠ q1)) := ⟨fun q hq => ⟨(OK1.out q hq).2.2.1, (OK1.out q hq).2.2.2⟩⟩
 have PD : Aside0 (∀ q, (fun k => (¬ ok k ∧ (k ≠ q0 ∧ k ≠ q1)) ∧ k < W.heap.size) q → (¬ (ok q ∨ w1.heap.size ≤ q) ∧ (q ≠ q0 ∧ q ≠ q1)) ∧ q ≠ W.heap.size + 2) := ⟨fun q hq => ⟨⟨(OKP.out q hq).1, (OKP.out q hq).2.2.2.2⟩, (OKP.out q hq).2.2.2.1⟩⟩
 have KQC : Aside0 (Kp (fun q => (q ≠ q0 ∧ q ≠ q1)) W (w6.setCell ⟨W.heap.size, 5, none⟩ (.int .i64 n))) := ⟨KQ6.out.set (by show (W.heap.size ≠ q0 ∧ W.heap.size ≠ q1); have := HQ0.out; omega) _⟩
 clear far Y4 Y5 Y7 I6 M6 B6 e4_0 e4_1 e4_2 e4_3 e4_4 e4_5 e5_0 e5_1 e5_2 e5_3 e5_4 e5_5 e5_6 e5_7 e5_8 f4_0 f4_1 f4_2 f4_3 f4_4 f4_5
 have Y4 := Y4'
 clear Y4'
 generalize w6.setCell ⟨W.heap.size, 5, none⟩ (.int .i64 n) = wc at Y4 Y8 IC MC BC KQC ⊢
 have e4_0 := (blk_cell Y4.out 0).trans rfl
 have e4_1 := (blk_cell Y4.out 1).trans rfl
 have e4_2 := (blk_cell Y4.out 2).trans rfl
 have e4_3 := (blk_cell Y4.out 3).trans rfl
 have e4_4 := (blk_cell Y4.out 4).trans rfl
 have e4_5 := (blk_cell Y4.out 5).trans rfl
 clear e4_0 e4_1 e4_2 e4_3 e4_4 e4_5
 have LY4 := Aside0.mk (blk_lt Y4.out)
 have ZR : Aside0 (Kp (fun q => q = W.heap.size + 2) wc wc) := ⟨Kp.refl _ _⟩
 have HSk : Aside0 (∀ w' : World, Kp (fun q => q = W.heap.size + 2) wc w' → w'.cell? ⟨W.heap.size, 0, none⟩ = some (.slice A0 (filesL st.sure).length c0) ∧ w'.cell? ⟨W.heap.size, 1, none⟩ = some (.slice A1 Wt.length c1) ∧ w'.cell? ⟨W.heap.size, 2, none⟩ = some (.int .i64 st.count) ∧ w'.cell? ⟨W.heap.size, 3, none⟩ = some (.bool st.down) ∧ w'.cell? ⟨W.heap.size, 4, none⟩ = some (.slice A4 fl.length c4) ∧ w'.cell? ⟨W.heap.size, 5, none⟩ = some (.int .i64 n)) := ⟨fun w' hf => by
  have z4 := (hf.block W.heap.size LY4.out (by omega)).trans Y4.out
  exact ⟨(blk_cell z4 0).trans rfl, (blk_cell z4 1).trans rfl, (blk_cell z4 2).trans rfl, (blk_cell z4 3).trans rfl, (blk_cell z4 4).trans rfl, (blk_cell z4 5).trans rfl⟩⟩
 have g7_0 := (blk_cell Y8.out 0).trans rfl
 have g7_1 := (blk_cell Y8.out 1).trans rfl
 have g7_2 := (blk_cell Y8.out 2).trans rfl
 have g7_3 := (blk_cell Y8.out 3).trans rfl
 have g7_4 := (blk_cell Y8.out 4).trans rfl
 have g7_5 := (blk_cell Y8.out 5).trans rfl
 have h7_0 := blk_frozen Y8.out 0
 have h7_1 := blk_frozen Y8.out 1
 have h7_2 := blk_frozen Y8.out 2
 have h7_3 := blk_frozen Y8.out 3
 have h7_4 := blk_frozen Y8.out 4
 have h7_5 := blk_frozen Y8.out 5
 go_upto_region 30 with (fail)
 go_region_held3 (fun w' => w'.cell? ⟨W.heap.size, 0, none⟩ = some (.slice A0 (filesL st.sure).length c0) ∧ w'.cell? ⟨W.heap.size, 1, none⟩ = some (.slice A1 Wt.length c1) ∧ w'.cell? ⟨W.heap.size, 2, none⟩ = some (.int .i64 st.count) ∧ w'.cell? ⟨W.heap.size, 3, none⟩ = some (.bool st.down) ∧ w'.cell? ⟨W.heap.size, 4, none⟩ = some (.slice A4 fl.length c4) ∧ w'.cell? ⟨W.heap.size, 5, none⟩ = some (.int .i64 n)) ((refine HSk.out _ ?_; (repeat (first | (with_reducible exact ZR.out) | (with_reducible refine Kp.drew ?_) | ((with_reducible refine Kp.set ?_ ?_ _); rotate_left; (exact rfl)))))) (fail)
 have TW : Aside0 (Two w0.heap.size q0 q1 (st6 wc (W.heap.size + 2) (.slice A0 (filesL st.sure).length c0) (.slice A1 Wt.length c1) (.int .i64 st.count) (.bool st.down) (.slice A4 fl.length c4) (.int .i64 n)).drew d ({ st with room := max n (-1) } : DK) (.slice A0 (filesL st.sure).length c0) (.slice A1 Wt.length c1) (.slice A4 fl.length c4) st.sure Wt fl) := ⟨by
  refine Two.drew ?_
  refine Two.far (W := wc) (q := W.heap.size + 2) ⟨_, fun q hq => ⟨(OKD.out q hq).2, (OKD.out q hq).1⟩, IC.out, ?_⟩ (fun q hq => st6_far wc (W.heap.size + 2) (.slice A0 (filesL st.sure).length c0) (.slice A1 Wt.length c1) (.int .i64 st.count) (.bool st.down) (.slice A4 fl.length c4) (.int .i64 n) q hq)
  exact MC.out.mono (fun q hq => PD.out q hq)⟩
 have KE : Aside0 (Kp (fun q => (q ≠ q0 ∧ q ≠ q1)) W (st6 wc (W.heap.size + 2) (.slice A0 (filesL st.sure).length c0) (.slice A1 Wt.length c1) (.int .i64 st.count) (.bool st.down) (.slice A4 fl.length c4) (.int .i64 n)).drew) := ⟨Kp.drew (kp_far6 KQC.out (by have := HQ0.out; omega) (.slice A0 (filesL st.sure).length c0) (.slice A1 Wt.length c1) (.int .i64 st.count) (.bool st.down) (.slice A4 fl.length c4) (.int .i64 n))⟩
 have BE : Aside0 (Below w0.heap.size w0 (st6 wc (W.heap.size + 2) (.slice A0 (filesL st.sure).length c0) (.slice A1 Wt.length c1) (.int .i64 st.count) (.bool st.down) (.slice A4 fl.length c4) (.int .i64 n)).drew) := ⟨below_drew1 (st6_below BC.out (by have := HBW.out; omega) _ _ _ _ _ _)⟩
 have YE : Aside0 ((st6 wc (W.heap.size + 2) (.slice A0 (filesL st.sure).length c0) (.slice A1 Wt.length c1) (.int .i64 st.count) (.bool st.down) (.slice A4 fl.length c4) (.int .i64 n)).drew.heap[W.heap.size + 2]? = some (.cells #[.slice A0 (filesL st.sure).length c0, .slice A1 Wt.length c1, .int .i64 st.count, .bool st.down, .slice A4 fl.length c4, .int .i64 n] 57 (0, 0))) := ⟨blk_drew (st6_blk Y8.out (.slice A0 (filesL st.sure).length c0) (.slice A1 Wt.length c1) (.int .i64 st.count) (.bool st.down) (.slice A4 fl.length c4) (.int .i64 n))⟩
 go_wp2
 refine bodyPost_ret (results_list (rs := [.tmp 6, .cell 7 57, .tmp 8]) rfl (by simp) (.tmp (.cell (W.heap.size + 2) 57 #[.slice A0 (filesL st.sure).length c0, .slice A1 Wt.length c1, .int .i64 st.count, .bool st.down, .slice A4 fl.length c4, .int .i64 n] (0, 0) _ rfl YE.out Try.underlying57 rfl (by kernel_rfl) (.tmp .nil)))) rfl ?_
 exact ⟨d, ({ st with room := max n (-1) } : DK), _, _, _, Wt, fl, n, rfl, TW.out, HRN.out, BE.out, KE.out⟩
theorem one_up {w0 W : World} {d i q0 q1 : Nat} {st : DK} {v0 v1 v4 : Value} {Wt : List S86} {fl : List S90} {rm : Int} (hq0 : q0 < W.heap.size ∧ q1 < W.heap.size) (hT : Two w0.heap.size q0 q1 W d st v0 v1 v4 st.sure Wt fl) (hR : RelA i st Wt fl rm) (hi : i ≤ 500) (hB : Below w0.heap.size w0 W) (k : Int) (a b s : ByteArray) (n x5 x6 x7 : Int) (A : Option Addr) (c : Nat) (pl : List S23) (hpl : Kd.C k23 w0 A pl.length pl) (hplc : pl.length ≤ c) (hpln : pl.length * 24 ≤ 140737488351232) (ha : a.size ≤ BM) (hb : b.size ≤ BM) (hs : s.size ≤ BM) (hk : k = 7) :
  Calls Try.prog 29 #[.pointer (some ⟨d, 0, none⟩), .agg #[v0, v1, .int .i64 st.count, .bool st.down, v4, .int .i64 rm], .agg #[.int .i64 k, .string a, .string b, .string s, .int .i64 n, .int .i64 x5, .int .i64 x6, .int .i64 x7, .slice A pl.length c]] W (OneP w0 q0 q1 W i) := by
 have hu57 := Try.underlying57
 have hua := Try.underlying40
 have huf := Try.underlying23
 obtain ⟨ok, hok, hI, hM⟩ := hT
 obtain ⟨A0, c0, A1, c1, A4, c4, rfl, rfl, rfl⟩ := hM.slices
 obtain ⟨g1, g2, g3, g4, g5⟩ := alloc3 W (.cells #[.slice A0 (filesL st.sure).length c0, .slice A1 Wt.length c1, .int .i64 st.count, .bool st.down, .slice A4 fl.length c4, .int .i64 rm] 57 (0, 0)) (.cells #[.int .i64 k, .string a, .string b, .string s, .int .i64 n, .int .i64 x5, .int .i64 x6, .int .i64 x7, .slice A pl.length c] 40 (0, 0)) (.cells #[.slice none 0 0, .slice none 0 0, .int .i64 0, .bool false, .slice none 0 0, .int .i64 0] 57 (0, 0))
 obtain ⟨w1, hw1⟩ : ∃ w1, w1 = ((W.alloc (.cells #[.slice A0 (filesL st.sure).length c0, .slice A1 Wt.length c1, .int .i64 st.count, .bool st.down, .slice A4 fl.length c4, .int .i64 rm] 57 (0, 0))).alloc (.cells #[.int .i64 k, .string a, .string b, .string s, .int .i64 n, .int .i64 x5, .int .i64 x6, .int .i64 x7, .slice A pl.length c] 40 (0, 0))).alloc (.cells #[.slice none 0 0, .slice none 0 0, .int .i64 0, .bool false, .slice none 0 0, .int .i64 0] 57 (0, 0)) := ⟨_, rfl⟩
 rw [← hw1] at g1 g2 g3 g4 g5
 have X4 := Aside0.mk g1
 have X5 := Aside0.mk g2
 have X7 := Aside0.mk g3
 have B1 := Aside0.mk g4
 have SZ := Aside0.mk g5
 have I1 := Aside0.mk (hI.below g4)
 have M1 := Aside0.mk (hM.below g4)
 have HQ0 := Aside0.mk hq0
 have OKK : Aside0 (∀ q, ok q → w0.heap.size ≤ q ∧ q < W.heap.size) := ⟨fun q h => ⟨(hok q h).1.1, (hok q h).2⟩⟩
 have OKQ : Aside0 (∀ q, ok q → (q ≠ q0 ∧ q ≠ q1)) := ⟨fun q h => (hok q h).1.2⟩
 have KQ1 : Aside0 (Kp (fun q => (q ≠ q0 ∧ q ≠ q1)) W w1) := ⟨Kp.of_below g4⟩
 have HB := Aside0.mk hB
 have HR := Aside0.mk hR
 have HI := Aside0.mk hi
 have HPC := Aside0.mk hplc
 have HPN := Aside0.mk hpln
 have HPL : Aside0 (∀ w', Below w1.heap.size w1 w' → Kd.C k23 w' A pl.length pl) := ⟨fun w' hb => Kd.C_below hpl (hB.trans ((g4.trans (hb.mono g4.size)).mono hB.size))⟩
 have HP0 : Aside0 (∀ w', Below w0.heap.size w0 w' → Kd.C k23 w' A pl.length pl) := ⟨fun w' hb => Kd.C_below hpl hb⟩
 have HSA := Aside0.mk ha
 have HSB := Aside0.mk hb
 have HSS := Aside0.mk hs
 have HK := Aside0.mk hk
 clear hq0 hok hI hM hR hi hB hpl hplc hpln ha hb hs hk g1 g2 g3 g4 g5
 go_enter Try.func29, Try.ntmps29
 go_upto_region 1 with (fail)
 rw [← hw1]
 clear hw1
 have e5_0 := (blk_cell X5.out 0).trans rfl
 have e5_1 := (blk_cell X5.out 1).trans rfl
 have e5_2 := (blk_cell X5.out 2).trans rfl
 have e5_3 := (blk_cell X5.out 3).trans rfl
 have e5_4 := (blk_cell X5.out 4).trans rfl
 have e5_5 := (blk_cell X5.out 5).trans rfl
 have e5_6 := (blk_cell X5.out 6).trans rfl
 have e5_7 := (blk_cell X5.out 7).trans rfl
 have e5_8 := (blk_cell X5.out 8).trans rfl
 have e4_0 := (blk_cell X4.out 0).trans rfl
 have e4_1 := (blk_cell X4.out 1).trans rfl
 have e4_2 := (blk_cell X4.out 2).trans rfl
 have e4_3 := (blk_cell X4.out 3).trans rfl
 have e4_4 := (blk_cell X4.out 4).trans rfl
 have e4_5 := (blk_cell X4.out 5).trans rfl
 have kq0 : (k == 0) = false := beq_eq_false_iff_ne.mpr (by have := HK.out; omega)
 have kq1 : (k == 1) = false := beq_eq_false_iff_ne.mpr (by have := HK.out; omega)
 have kq2 : (k == 2) = false := beq_eq_false_iff_ne.mpr (by have := HK.out; omega)
 have kq3 : (k == 3) = false := beq_eq_false_iff_ne.mpr (by have := HK.out; omega)
 have kq4 : (k == 4) = false := beq_eq_false_iff_ne.mpr (by have := HK.out; omega)
 have kq5 : (k == 5) = false := beq_eq_false_iff_ne.mpr (by have := HK.out; omega)
 have kq6 : (k == 6) = false := beq_eq_false_iff_ne.mpr (by have := HK.out; omega)
 have q7 : (k == 7) = true := beq_iff_eq.mpr HK.out
 have HRN := Aside0.mk (up_rel HR.out)
 have zz : (st.down == st.down) = true := by simp
 have f4_0 := blk_frozen X4.out 0
 have f4_1 := blk_frozen X4.out 1
 have f4_2 := blk_frozen X4.out 2
 have f4_3 := blk_frozen X4.out 3
 have f4_4 := blk_frozen X4.out 4
 have f4_5 := blk_frozen X4.out 5
 go_upto_region 18 with (fail)
 have far : ∀ q, q ≠ W.heap.size → (w1.setCell ⟨W.heap.size, 3, none⟩ (.bool false)).heap[q]? = w1.heap[q]? := fun q hq => Below.heap_setCell _ _ _ q hq
 have X9 := Aside0.mk (blk_put (cs' := #[.slice A0 (filesL st.sure).length c0, .slice A1 Wt.length c1, .int .i64 st.count, .bool false, .slice A4 fl.length c4, .int .i64 rm]) X4.out 3 (.bool false) rfl)
 have Y5 := Aside0.mk ((far (W.heap.size + 1) (by omega)).trans X5.out)
 have Y7 := Aside0.mk ((far (W.heap.size + 2) (by omega)).trans X7.out)
 have I2 := Aside0.mk (I1.out.step (fun q hq _ => far q (by have := OKK.out q hq; omega)))
 have HBW : Aside0 (w0.heap.size ≤ W.heap.size) := ⟨HB.out.size⟩
 have B2 : Aside0 (Below w0.heap.size w0 (w1.setCell ⟨W.heap.size, 3, none⟩ (.bool false))) := ⟨(HB.out.trans (B1.out.mono HB.out.size)).setCell (by show w0.heap.size ≤ W.heap.size; exact HB.out.size) _⟩
 have KQ2 : Aside0 (Kp (fun q => (q ≠ q0 ∧ q ≠ q1)) W (w1.setCell ⟨W.heap.size, 3, none⟩ (.bool false))) := ⟨KQ1.out.set (by show (W.heap.size ≠ q0 ∧ W.heap.size ≠ q1); have := HQ0.out; omega) _⟩
 have R2 : Aside0 (RefM (w1.setCell ⟨W.heap.size, 3, none⟩ (.bool false)) (fun q => ((fun k => (¬ ok k ∧ (k ≠ q0 ∧ k ≠ q1)) ∧ k < W.heap.size) q ∨ w1.heap.size ≤ q) ∧ q ≠ W.heap.size) (.slice A0 (filesL st.sure).length c0) (.slice A1 Wt.length c1) (.slice A4 fl.length c4) st.sure Wt fl) := ⟨(M1.out.step (fun q hq _ => far q (by have := hq.2; omega))).mono (fun q hq => ⟨Or.inl hq, by have := hq.2; omega⟩)⟩
 have N9 : Aside0 (W.heap.size ≤ W.heap.size) := ⟨Nat.le_refl _⟩
 have N97 : Aside0 (W.heap.size ≠ W.heap.size + 2) := ⟨by omega⟩
 clear far X4 X5 X7 I1 M1 B1 HB HPL e4_0 e4_1 e4_2 e4_3 e4_4 e4_5 e5_0 e5_1 e5_2 e5_3 e5_4 e5_5 e5_6 e5_7 e5_8 f4_0 f4_1 f4_2 f4_3 f4_4 f4_5
 generalize w1.setCell ⟨W.heap.size, 3, none⟩ (.bool false) = wc at X9 Y5 Y7 I2 B2 R2 KQ2 ⊢
 have L5 := Aside0.mk (blk_lt Y5.out)
 have L7 := Aside0.mk (blk_lt Y7.out)
 have L9 := Aside0.mk (blk_lt X9.out)
 have OK1 : Aside0 (∀ q, (ok q ∨ wc.heap.size ≤ q) → q ≠ W.heap.size + 1 ∧ q ≠ W.heap.size + 2 ∧ q ≠ W.heap.size ∧ w0.heap.size ≤ q ∧ (q ≠ q0 ∧ q ≠ q1)) := ⟨fun q hq => by
  have h0 := HQ0.out
  have h1 := L5.out
  have h2 := L7.out
  have h3 := L9.out
  have h4 := N9.out
  have h5 := SZ.out
  have h6 := B2.out.size
  rcases hq with hq | hq
  ·have := OKK.out q hq
   have := OKQ.out q hq
   omega
  ·omega⟩
 have HSk : Aside0 (∀ w', Kp (fun q => ok q ∨ wc.heap.size ≤ q ∨ q = W.heap.size + 2) wc w' → w'.cell? ⟨W.heap.size, 0, none⟩ = some (.slice A0 (filesL st.sure).length c0) ∧ w'.cell? ⟨W.heap.size, 1, none⟩ = some (.slice A1 Wt.length c1) ∧ w'.cell? ⟨W.heap.size, 2, none⟩ = some (.int .i64 st.count) ∧ w'.cell? ⟨W.heap.size, 3, none⟩ = some (.bool false) ∧ w'.cell? ⟨W.heap.size, 4, none⟩ = some (.slice A4 fl.length c4) ∧ w'.cell? ⟨W.heap.size, 5, none⟩ = some (.int .i64 rm)) := ⟨fun w' hb => by
  have z9 := (hb.block W.heap.size L9.out (fun h => h.elim (fun h => (OK1.out _ (Or.inl h)).2.2.1 rfl) (fun h => h.elim (fun h => (OK1.out _ (Or.inr h)).2.2.1 rfl) (fun h => N97.out h)))).trans X9.out
  have z5 := (hb.block (W.heap.size + 1) L5.out (fun h => h.elim (fun h => (OK1.out _ (Or.inl h)).1 rfl) (fun h => h.elim (fun h => (OK1.out _ (Or.inr h)).1 rfl) (fun h => by omega)))).trans Y5.out
  exact ⟨(blk_cell z9 0).trans rfl, (blk_cell z9 1).trans rfl, (blk_cell z9 2).trans rfl, (blk_cell z9 3).trans rfl, (blk_cell z9 4).trans rfl, (blk_cell z9 5).trans rfl⟩⟩
 have ID : Aside0 (IsD wc.drew d (fun q => ok q ∨ wc.heap.size ≤ q) st) := ⟨(I2.out.step (W' := wc.drew) (fun _ _ _ => rfl)).mono (fun q hq => Or.inl hq)⟩
 have HNEW : Aside0 (∀ q, wc.drew.heap.size ≤ q → (ok q ∨ wc.heap.size ≤ q)) := ⟨fun q hq => Or.inr hq⟩
 have ZD0 : Aside0 (Kp (fun q => ok q ∨ wc.heap.size ≤ q) wc wc.drew) := ⟨Kp.drew (Kp.refl _ _)⟩
 have ZD : Aside0 (Kp (fun q => ok q ∨ wc.heap.size ≤ q ∨ q = W.heap.size + 2) wc wc.drew) := ⟨Kp.drew (Kp.refl _ _)⟩
 go_upto_region 18 with (fail)
 go_region_held3 (fun w' => w'.cell? ⟨W.heap.size, 0, none⟩ = some (.slice A0 (filesL st.sure).length c0) ∧ w'.cell? ⟨W.heap.size, 1, none⟩ = some (.slice A1 Wt.length c1) ∧ w'.cell? ⟨W.heap.size, 2, none⟩ = some (.int .i64 st.count) ∧ w'.cell? ⟨W.heap.size, 3, none⟩ = some (.bool false) ∧ w'.cell? ⟨W.heap.size, 4, none⟩ = some (.slice A4 fl.length c4) ∧ w'.cell? ⟨W.heap.size, 5, none⟩ = some (.int .i64 rm))
  ((refine HSk.out _ ?_; (repeat (first | (with_reducible exact Z8.out.2.2) | (with_reducible exact ZD.out) | ((with_reducible refine Kp.set ?_ ?_ _); rotate_left; (exact Or.inr (Or.inr rfl)))))))
  ((go_at_call 17; (with_reducible refine (up_calls ID.out).mono ?_); rintro e w8 ⟨rfl, hI8, hK8⟩; have Z8 : Aside0 (IsD w8 d (fun q => ok q ∨ wc.heap.size ≤ q) ({ st with down := false } : DK) ∧ Kp (fun q => ok q ∨ wc.heap.size ≤ q) wc w8 ∧ Kp (fun q => ok q ∨ wc.heap.size ≤ q ∨ q = W.heap.size + 2) wc w8) := ⟨hI8, ZD0.out.trans hK8, (ZD0.out.trans hK8).mono (fun q _ h => h.elim Or.inl (fun h => Or.inr (Or.inl h)))⟩; have Y8 := Aside0.mk ((Z8.out.2.1.block (W.heap.size + 2) L7.out (fun h => (OK1.out _ h).2.1 rfl)).trans Y7.out); have g7_0 := (blk_cell Y8.out 0).trans rfl; have g7_1 := (blk_cell Y8.out 1).trans rfl; have g7_2 := (blk_cell Y8.out 2).trans rfl; have g7_3 := (blk_cell Y8.out 3).trans rfl; have g7_4 := (blk_cell Y8.out 4).trans rfl; have g7_5 := (blk_cell Y8.out 5).trans rfl; have h7_0 := blk_frozen Y8.out 0; have h7_1 := blk_frozen Y8.out 1; have h7_2 := blk_frozen Y8.out 2; have h7_3 := blk_frozen Y8.out 3; have h7_4 := blk_frozen Y8.out 4; have h7_5 := blk_frozen Y8.out 5; clear hI8 hK8))
 have TW : Aside0 (Two w0.heap.size q0 q1 (st6 w8 (W.heap.size + 2) (.slice A0 (filesL st.sure).length c0) (.slice A1 Wt.length c1) (.int .i64 st.count) (.bool false) (.slice A4 fl.length c4) (.int .i64 rm)) d ({ st with down := false } : DK) (.slice A0 (filesL st.sure).length c0) (.slice A1 Wt.length c1) (.slice A4 fl.length c4) st.sure Wt fl) := ⟨by
  refine Two.far (q := W.heap.size + 2) ⟨fun q => ok q ∨ wc.heap.size ≤ q, fun q hq => ⟨(OK1.out q hq).2.2.2, (OK1.out q hq).2.1⟩, Z8.out.1, ?_⟩ (fun q hq => st6_far _ _ _ _ _ _ _ _ q hq)
  have hin : ∀ q, (((fun k => (¬ ok k ∧ (k ≠ q0 ∧ k ≠ q1)) ∧ k < W.heap.size) q ∨ w1.heap.size ≤ q) ∧ q ≠ W.heap.size) ∧ q < wc.heap.size → (¬ (ok q ∨ wc.heap.size ≤ q) ∧ (q ≠ q0 ∧ q ≠ q1)) ∧ q ≠ W.heap.size + 2 := fun q hq => by
   have h5 := SZ.out
   have h6 := HQ0.out
   rcases hq.1.1 with h | h
   ·exact ⟨⟨fun h2 => h2.elim (fun h2 => h.1.1 h2) (fun h2 => by omega), h.1.2⟩, by have := h.2; omega⟩
   ·exact ⟨⟨fun h2 => h2.elim (fun h2 => by have := OKK.out q h2; omega) (fun h2 => by omega), by omega⟩, by omega⟩
  exact ((R2.out.bound.step (fun q hq hlt => Z8.out.2.1.block q hlt (hin q hq).1.1)).mono hin)⟩
 have KE : Aside0 (Kp (fun q => (q ≠ q0 ∧ q ≠ q1)) W (st6 w8 (W.heap.size + 2) (.slice A0 (filesL st.sure).length c0) (.slice A1 Wt.length c1) (.int .i64 st.count) (.bool false) (.slice A4 fl.length c4) (.int .i64 rm))) := ⟨kp_far6 (KQ2.out.trans (Z8.out.2.1.mono (fun q _ h => (OK1.out q h).2.2.2.2))) (by have := HQ0.out; omega) (.slice A0 (filesL st.sure).length c0) (.slice A1 Wt.length c1) (.int .i64 st.count) (.bool false) (.slice A4 fl.length c4) (.int .i64 rm)⟩
 have BE : Aside0 (Below w0.heap.size w0 (st6 w8 (W.heap.size + 2) (.slice A0 (filesL st.sure).length c0) (.slice A1 Wt.length c1) (.int .i64 st.count) (.bool false) (.slice A4 fl.length c4) (.int .i64 rm))) := ⟨st6_below (B2.out.trans ((Z8.out.2.1.mono (fun q _ h => (OK1.out q h).2.2.2.1)).below B2.out.size)) (by have := B2.out.size; have := L7.out; have h := (HBW.out); omega) _ _ _ _ _ _⟩
 have YE : Aside0 ((st6 w8 (W.heap.size + 2) (.slice A0 (filesL st.sure).length c0) (.slice A1 Wt.length c1) (.int .i64 st.count) (.bool false) (.slice A4 fl.length c4) (.int .i64 rm)).heap[W.heap.size + 2]? = some (.cells #[.slice A0 (filesL st.sure).length c0, .slice A1 Wt.length c1, .int .i64 st.count, .bool false, .slice A4 fl.length c4, .int .i64 rm] 57 (0, 0))) := ⟨st6_blk Y8.out _ _ _ _ _ _⟩
 go_wp2
 refine bodyPost_ret (results_list (rs := [.tmp 6, .cell 7 57, .tmp 8]) rfl (by simp) (.tmp (.cell (W.heap.size + 2) 57 #[.slice A0 (filesL st.sure).length c0, .slice A1 Wt.length c1, .int .i64 st.count, .bool false, .slice A4 fl.length c4, .int .i64 rm] (0, 0) _ rfl YE.out Try.underlying57 rfl (by kernel_rfl) (.tmp .nil)))) rfl ?_
 exact ⟨d, ({ st with down := false } : DK), _, _, _, Wt, fl, rm, rfl, TW.out, HRN.out, BE.out, KE.out⟩
def tO : ByteArray := ⟨#[111, 116, 104, 101, 114]⟩
def tX : ByteArray := ⟨#[120]⟩
theorem one_clone {w0 W : World} {d i q0 q1 : Nat} {st : DK} {v0 v1 v4 : Value} {Wt : List S86} {fl : List S90} {rm : Int} (hq0 : q0 < W.heap.size ∧ q1 < W.heap.size) (hT : Two w0.heap.size q0 q1 W d st v0 v1 v4 st.sure Wt fl) (hR : RelA i st Wt fl rm) (hi : i ≤ 500) (hB : Below w0.heap.size w0 W) (k : Int) (a b s : ByteArray) (n x5 x6 x7 : Int) (A : Option Addr) (c : Nat) (pl : List S23) (hpl : Kd.C k23 w0 A pl.length pl) (hplc : pl.length ≤ c) (hpln : pl.length * 24 ≤ 140737488351232) (ha : a.size ≤ BM) (hb : b.size ≤ BM) (hs : s.size ≤ BM) (hk : ¬ (0 ≤ k ∧ k ≤ 9)) :
  Calls Try.prog 29 #[.pointer (some ⟨d, 0, none⟩), .agg #[v0, v1, .int .i64 st.count, .bool st.down, v4, .int .i64 rm], .agg #[.int .i64 k, .string a, .string b, .string s, .int .i64 n, .int .i64 x5, .int .i64 x6, .int .i64 x7, .slice A pl.length c]] W (OneP w0 q0 q1 W i) := by
 have hu57 := Try.underlying57
 have hua := Try.underlying40
 have huf := Try.underlying23
 obtain ⟨ok, hok, hI, hM⟩ := hT
 obtain ⟨A0, c0, A1, c1, A4, c4, rfl, rfl, rfl⟩ := hM.slices
 obtain ⟨g1, g2, g3, g4, g5⟩ := alloc3 W (.cells #[.slice A0 (filesL st.sure).length c0, .slice A1 Wt.length c1, .int .i64 st.count, .bool st.down, .slice A4 fl.length c4, .int .i64 rm] 57 (0, 0)) (.cells #[.int .i64 k, .string a, .string b, .string s, .int .i64 n, .int .i64 x5, .int .i64 x6, .int .i64 x7, .slice A pl.length c] 40 (0, 0)) (.cells #[.slice none 0 0, .slice none 0 0, .int .i64 0, .bool false, .slice none 0 0, .int .i64 0] 57 (0, 0))
 obtain ⟨w1, hw1⟩ : ∃ w1, w1 = ((W.alloc (.cells #[.slice A0 (filesL st.sure).length c0, .slice A1 Wt.length c1, .int .i64 st.count, .bool st.down, .slice A4 fl.length c4, .int .i64 rm] 57 (0, 0))).alloc (.cells #[.int .i64 k, .string a, .string b, .string s, .int .i64 n, .int .i64 x5, .int .i64 x6, .int .i64 x7, .slice A pl.length c] 40 (0, 0))).alloc (.cells #[.slice none 0 0, .slice none 0 0, .int .i64 0, .bool false, .slice none 0 0, .int .i64 0] 57 (0, 0)) := ⟨_, rfl⟩
 rw [← hw1] at g1 g2 g3 g4 g5
 have X4 := Aside0.mk g1
 have X5 := Aside0.mk g2
 have X7 := Aside0.mk g3
 have B1 := Aside0.mk g4
 have SZ := Aside0.mk g5
 have I1 := Aside0.mk (hI.below g4)
 have M1 := Aside0.mk (hM.below g4)
 have HQ0 := Aside0.mk hq0
 have OKK : Aside0 (∀ q, ok q → w0.heap.size ≤ q ∧ q < W.heap.size) := ⟨fun q h => ⟨(hok q h).1.1, (hok q h).2⟩⟩
 have OKQ : Aside0 (∀ q, ok q → (q ≠ q0 ∧ q ≠ q1)) := ⟨fun q h => (hok q h).1.2⟩
 have KQ1 : Aside0 (Kp (fun q => (q ≠ q0 ∧ q ≠ q1)) W w1) := ⟨Kp.of_below g4⟩
 have HB := Aside0.mk hB
 have HR := Aside0.mk hR
 have HI := Aside0.mk hi
 have HPC := Aside0.mk hplc
 have HPN := Aside0.mk hpln
 have HPL : Aside0 (∀ w', Below w1.heap.size w1 w' → Kd.C k23 w' A pl.length pl) := ⟨fun w' hb => Kd.C_below hpl (hB.trans ((g4.trans (hb.mono g4.size)).mono hB.size))⟩
 have HP0 : Aside0 (∀ w', Below w0.heap.size w0 w' → Kd.C k23 w' A pl.length pl) := ⟨fun w' hb => Kd.C_below hpl hb⟩
 have HSA := Aside0.mk ha
 have HSB := Aside0.mk hb
 have HSS := Aside0.mk hs
 have HK := Aside0.mk hk
 clear hq0 hok hI hM hR hi hB hpl hplc hpln ha hb hs hk g1 g2 g3 g4 g5
 go_enter Try.func29, Try.ntmps29
 go_upto_region 1 with (fail)
 rw [← hw1]
 clear hw1
 have e5_0 := (blk_cell X5.out 0).trans rfl
 have e5_1 := (blk_cell X5.out 1).trans rfl
 have e5_2 := (blk_cell X5.out 2).trans rfl
 have e5_3 := (blk_cell X5.out 3).trans rfl
 have e5_4 := (blk_cell X5.out 4).trans rfl
 have e5_5 := (blk_cell X5.out 5).trans rfl
 have e5_6 := (blk_cell X5.out 6).trans rfl
 have e5_7 := (blk_cell X5.out 7).trans rfl
 have e5_8 := (blk_cell X5.out 8).trans rfl
 have e4_0 := (blk_cell X4.out 0).trans rfl
 have e4_1 := (blk_cell X4.out 1).trans rfl
 have e4_2 := (blk_cell X4.out 2).trans rfl
 have e4_3 := (blk_cell X4.out 3).trans rfl
 have e4_4 := (blk_cell X4.out 4).trans rfl
 have e4_5 := (blk_cell X4.out 5).trans rfl
 have kq0 : (k == 0) = false := beq_eq_false_iff_ne.mpr (by have := HK.out; omega)
 have kq1 : (k == 1) = false := beq_eq_false_iff_ne.mpr (by have := HK.out; omega)
 have kq2 : (k == 2) = false := beq_eq_false_iff_ne.mpr (by have := HK.out; omega)
 have kq3 : (k == 3) = false := beq_eq_false_iff_ne.mpr (by have := HK.out; omega)
 have kq4 : (k == 4) = false := beq_eq_false_iff_ne.mpr (by have := HK.out; omega)
 have kq5 : (k == 5) = false := beq_eq_false_iff_ne.mpr (by have := HK.out; omega)
 have kq6 : (k == 6) = false := beq_eq_false_iff_ne.mpr (by have := HK.out; omega)
 have kq7 : (k == 7) = false := beq_eq_false_iff_ne.mpr (by have := HK.out; omega)
 have kq8 : (k == 8) = false := beq_eq_false_iff_ne.mpr (by have := HK.out; omega)
 have kq9 : (k == 9) = false := beq_eq_false_iff_ne.mpr (by have := HK.out; omega)
 have HRN := Aside0.mk (HR.out.mono (Nat.le_succ i))
 have LX4 := Aside0.mk (blk_lt X4.out)
 have LX5 := Aside0.mk (blk_lt X5.out)
 have LX7 := Aside0.mk (blk_lt X7.out)
 have OK1 : Aside0 (∀ q, (ok q ∨ w1.heap.size ≤ q) → q ≠ W.heap.size ∧ q ≠ W.heap.size + 1 ∧ q ≠ W.heap.size + 2 ∧ w0.heap.size ≤ q ∧ (q ≠ q0 ∧ q ≠ q1)) := ⟨fun q hq => by
  have h1 := SZ.out
  have h2 := HB.out.size
  have h3 := HQ0.out
  rcases hq with hq | hq
  ·have := OKK.out q hq
   have := OKQ.out q hq
   omega
  ·omega⟩
 have OKP : Aside0 (∀ q, (fun k => (¬ ok k ∧ (k ≠ q0 ∧ k ≠ q1)) ∧ k < W.heap.size) q → ¬ (ok q ∨ w1.heap.size ≤ q) ∧ q ≠ W.heap.size ∧ q ≠ W.heap.size + 1 ∧ q ≠ W.heap.size + 2 ∧ (q ≠ q0 ∧ q ≠ q1)) := ⟨fun q hq => by
  have h1 := SZ.out
  have h2 := hq.2
  exact ⟨fun h => h.elim hq.1.1 (fun h => by omega), by omega, by omega, by omega, hq.1.2⟩⟩
 have ID1 : Aside0 (IsD w1 d (fun q => ok q ∨ w1.heap.size ≤ q) st) := ⟨I1.out.mono (fun q hq => Or.inl hq)⟩
 have HN1 : Aside0 (∀ q, w1.heap.size ≤ q → (ok q ∨ w1.heap.size ≤ q)) := ⟨fun q hq => Or.inr hq⟩
 have B01 : Aside0 (Below w0.heap.size w0 w1) := ⟨HB.out.trans (B1.out.mono HB.out.size)⟩
 go_wp2_with (fail)
 refine (clone_calls I1.out (by have := HR.out.rel.gp.len; have := HI.out; omega) (by have := HR.out.rel.gp.fal; omega)).mono ?_
 rintro e w2 ⟨dc, rfl, hI2, hb2⟩
 have IC2 := Aside0.mk hI2.bound
 have IO2 : Aside0 (IsD w2 d (fun q => ok q ∨ w2.heap.size ≤ q) st) := ⟨(I1.out.below hb2).mono (fun q hq => Or.inl hq)⟩
 have BL2 := Aside0.mk hb2
 have HN2 : Aside0 (∀ q, w2.heap.size ≤ q → (ok q ∨ w2.heap.size ≤ q)) := ⟨fun q hq => Or.inr hq⟩
 have HGA : Aside0 (GP (i + 1) (appendK st tO tX).1) := ⟨by
  have h := HR.out.rel.gp.call (Nat.le_trans HI.out (by decide)) (k := 0) (a := tO) (b := ⟨#[]⟩) (s := tX) (n := 0) (by decide) (by decide) (by decide) (by decide)
  exact h⟩
 clear hI2 hb2 e4_0 e4_1 e4_2 e4_3 e4_4 e4_5 e5_0 e5_1 e5_2 e5_3 e5_4 e5_5 e5_6 e5_7 e5_8
 go_wp2_with (fail)
 refine (append_calls IO2.out HN2.out tO tX (by decide) ⟨HR.out.rel.gp.small (Nat.le_trans HI.out (by decide)), by decide⟩ (fun _ _ => HR.out.rel.gp.can (Nat.le_trans HI.out (by decide)) (HR.out.rel.gp.okc (Nat.le_trans HI.out (by decide)) (k := 0) (a := tO) (b := ⟨#[]⟩) (s := tX) (n := 0) (by decide) (by decide) (by decide) (by decide) (fun e => absurd e (by decide))))).mono ?_
 rintro e w3 ⟨rfl, hI3, hK3⟩
 have HGB := Aside0.mk (HGA.out.fail 9 9)
 have HGC := HGA
 generalize (appendK st tO tX).1 = s3 at hI3 HGA HGB HGC
 generalize (appendK st tO tX).2 = e3
 have I3 := Aside0.mk hI3
 have K3 := Aside0.mk hK3
 clear hI3 hK3 HGC
 go_wp2_with (fail)
 refine (fail_calls I3.out (fun q hq => HN2.out q (Nat.le_trans K3.out.size hq)) HGA.out.val 9 9).mono ?_
 rintro e w4 ⟨rfl, hI4, hK4⟩
 have I4 := Aside0.mk hI4
 have K4 := Aside0.mk (K3.out.trans hK4)
 clear hI4 hK4 K3 I3
 go_wp2_with (fail)
 refine (room_calls I4.out 0).mono ?_
 rintro e w5 ⟨rfl, hI5, hK5⟩
 have I5 := Aside0.mk hI5
 have K5 := Aside0.mk (K4.out.trans hK5)
 clear hI5 hK5 K4 I4
 go_wp2_with (fail)
 refine (plan_calls I5.out (fun q hq => HN2.out q (Nat.le_trans K5.out.size hq)) none 0 [] (Kd.C_nil _ _) (by decide)).mono ?_
 rintro e w6 ⟨rfl, hI6, hK6⟩
 have K6 := Aside0.mk (K5.out.trans hK6)
 clear hI6 hK6 K5 I5
 have OK2 : Aside0 (∀ q, (ok q ∨ w2.heap.size ≤ q) → q < W.heap.size ∧ w0.heap.size ≤ q ∨ w2.heap.size ≤ q) := ⟨fun q hq => hq.imp (fun h => ⟨(OKK.out q h).2, (OKK.out q h).1⟩) id⟩
 have S12 : Aside0 (w1.heap.size ≤ w2.heap.size) := ⟨BL2.out.size⟩
 have kp : ∀ q, W.heap.size ≤ q → q < w2.heap.size → w6.heap[q]? = w2.heap[q]? := fun q h1 h2 => K6.out.block q h2 (fun h => by have := OK2.out q h; omega)
 have Y4 := Aside0.mk ((kp W.heap.size (by omega) (by have := SZ.out; have := S12.out; omega)).trans (blk_below X4.out BL2.out))
 have Y8 := Aside0.mk ((kp (W.heap.size + 2) (by omega) (by have := SZ.out; have := S12.out; omega)).trans (blk_below X7.out BL2.out))
 have IC : Aside0 (IsD w6 dc (fun q => w1.heap.size ≤ q ∧ q < w2.heap.size) st) := ⟨IC2.out.step (fun q hq hlt => kp q (by have := hq.1; have := SZ.out; omega) hq.2)⟩
 have MC : Aside0 (RefM w6 (fun k => (¬ ok k ∧ (k ≠ q0 ∧ k ≠ q1)) ∧ k < W.heap.size) (.slice A0 (filesL st.sure).length c0) (.slice A1 Wt.length c1) (.slice A4 fl.length c4) st.sure Wt fl) := ⟨(M1.out.below BL2.out).step (fun q hq hlt => K6.out.block q hlt (fun h => h.elim hq.1.1 (fun h => by have := hq.2; have := SZ.out; have := S12.out; omega)))⟩
 have BC : Aside0 (Below w0.heap.size w0 w6) := ⟨(B01.out.trans (BL2.out.mono B01.out.size)).trans ((K6.out.mono (fun q hlt h => (by have := OK2.out q h; have := B01.out.size; have := S12.out; omega : w0.heap.size ≤ q))).below (Nat.le_trans B01.out.size S12.out))⟩
 have HBW : Aside0 (w0.heap.size ≤ W.heap.size) := ⟨HB.out.size⟩
 have OKD : Aside0 (∀ q, (w1.heap.size ≤ q ∧ q < w2.heap.size) → q ≠ W.heap.size + 2 ∧ w0.heap.size ≤ q ∧ (q ≠ q0 ∧ q ≠ q1)) := ⟨fun q hq => ⟨by have := SZ.out; omega, by have := SZ.out; have := HB.out.size; omega, by have := SZ.out; have := HQ0.out; omega⟩⟩
 have PD : Aside0 (∀ q, (fun k => (¬ ok k ∧ (k ≠ q0 ∧ k ≠ q1)) ∧ k < W.heap.size) q → (¬ (w1.heap.size ≤ q ∧ q < w2.heap.size) ∧ (q ≠ q0 ∧ q ≠ q1)) ∧ q ≠ W.heap.size + 2) := ⟨fun q hq => ⟨⟨fun h => by have := hq.2; have := SZ.out; omega, hq.1.2⟩, by have := hq.2; omega⟩⟩
 have KQC : Aside0 (Kp (fun q => (q ≠ q0 ∧ q ≠ q1)) W w6) := ⟨(KQ1.out.trans (Kp.of_below BL2.out)).trans (K6.out.mono (fun q _ h => h.elim (OKQ.out q) (fun h => by have := SZ.out; have := S12.out; have := HQ0.out; omega)))⟩
 clear kp X4 X5 X7 I1 ID1 M1 IC2 IO2
 generalize w6 = wc at Y4 Y8 IC MC BC KQC ⊢
 have LY4 := Aside0.mk (blk_lt Y4.out)
 have ZR : Aside0 (Kp (fun q => q = W.heap.size + 2) wc wc) := ⟨Kp.refl _ _⟩
 have HSk : Aside0 (∀ w' : World, Kp (fun q => q = W.heap.size + 2) wc w' → w'.cell? ⟨W.heap.size, 0, none⟩ = some (.slice A0 (filesL st.sure).length c0) ∧ w'.cell? ⟨W.heap.size, 1, none⟩ = some (.slice A1 Wt.length c1) ∧ w'.cell? ⟨W.heap.size, 2, none⟩ = some (.int .i64 st.count) ∧ w'.cell? ⟨W.heap.size, 3, none⟩ = some (.bool st.down) ∧ w'.cell? ⟨W.heap.size, 4, none⟩ = some (.slice A4 fl.length c4) ∧ w'.cell? ⟨W.heap.size, 5, none⟩ = some (.int .i64 rm)) := ⟨fun w' hf => by
  have z4 := (hf.block W.heap.size LY4.out (by omega)).trans Y4.out
  exact ⟨(blk_cell z4 0).trans rfl, (blk_cell z4 1).trans rfl, (blk_cell z4 2).trans rfl, (blk_cell z4 3).trans rfl, (blk_cell z4 4).trans rfl, (blk_cell z4 5).trans rfl⟩⟩
 have g7_0 := (blk_cell Y8.out 0).trans rfl
 have g7_1 := (blk_cell Y8.out 1).trans rfl
 have g7_2 := (blk_cell Y8.out 2).trans rfl
 have g7_3 := (blk_cell Y8.out 3).trans rfl
 have g7_4 := (blk_cell Y8.out 4).trans rfl
 have g7_5 := (blk_cell Y8.out 5).trans rfl
 have h7_0 := blk_frozen Y8.out 0
 have h7_1 := blk_frozen Y8.out 1
 have h7_2 := blk_frozen Y8.out 2
 have h7_3 := blk_frozen Y8.out 3
 have h7_4 := blk_frozen Y8.out 4
 have h7_5 := blk_frozen Y8.out 5
 go_upto_region 36 with (fail)
 go_region_held3 (fun w' => w'.cell? ⟨W.heap.size, 0, none⟩ = some (.slice A0 (filesL st.sure).length c0) ∧ w'.cell? ⟨W.heap.size, 1, none⟩ = some (.slice A1 Wt.length c1) ∧ w'.cell? ⟨W.heap.size, 2, none⟩ = some (.int .i64 st.count) ∧ w'.cell? ⟨W.heap.size, 3, none⟩ = some (.bool st.down) ∧ w'.cell? ⟨W.heap.size, 4, none⟩ = some (.slice A4 fl.length c4) ∧ w'.cell? ⟨W.heap.size, 5, none⟩ = some (.int .i64 rm)) ((refine HSk.out _ ?_; (repeat (first | (with_reducible exact ZR.out) | (with_reducible refine Kp.drew ?_) | ((with_reducible refine Kp.set ?_ ?_ _); rotate_left; (exact rfl)))))) (fail)
 have TW : Aside0 (Two w0.heap.size q0 q1 (st6 wc (W.heap.size + 2) (.slice A0 (filesL st.sure).length c0) (.slice A1 Wt.length c1) (.int .i64 st.count) (.bool st.down) (.slice A4 fl.length c4) (.int .i64 rm)).drew dc st (.slice A0 (filesL st.sure).length c0) (.slice A1 Wt.length c1) (.slice A4 fl.length c4) st.sure Wt fl) := ⟨by
  refine Two.drew ?_
  refine Two.far (W := wc) (q := W.heap.size + 2) ⟨_, fun q hq => ⟨(OKD.out q hq).2, (OKD.out q hq).1⟩, IC.out, ?_⟩ (fun q hq => st6_far wc (W.heap.size + 2) (.slice A0 (filesL st.sure).length c0) (.slice A1 Wt.length c1) (.int .i64 st.count) (.bool st.down) (.slice A4 fl.length c4) (.int .i64 rm) q hq)
  exact MC.out.mono (fun q hq => PD.out q hq)⟩
 have KE : Aside0 (Kp (fun q => (q ≠ q0 ∧ q ≠ q1)) W (st6 wc (W.heap.size + 2) (.slice A0 (filesL st.sure).length c0) (.slice A1 Wt.length c1) (.int .i64 st.count) (.bool st.down) (.slice A4 fl.length c4) (.int .i64 rm)).drew) := ⟨Kp.drew (kp_far6 KQC.out (by have := HQ0.out; omega) (.slice A0 (filesL st.sure).length c0) (.slice A1 Wt.length c1) (.int .i64 st.count) (.bool st.down) (.slice A4 fl.length c4) (.int .i64 rm))⟩
 have BE : Aside0 (Below w0.heap.size w0 (st6 wc (W.heap.size + 2) (.slice A0 (filesL st.sure).length c0) (.slice A1 Wt.length c1) (.int .i64 st.count) (.bool st.down) (.slice A4 fl.length c4) (.int .i64 rm)).drew) := ⟨below_drew1 (st6_below BC.out (by have := HBW.out; omega) _ _ _ _ _ _)⟩
 have YE : Aside0 ((st6 wc (W.heap.size + 2) (.slice A0 (filesL st.sure).length c0) (.slice A1 Wt.length c1) (.int .i64 st.count) (.bool st.down) (.slice A4 fl.length c4) (.int .i64 rm)).drew.heap[W.heap.size + 2]? = some (.cells #[.slice A0 (filesL st.sure).length c0, .slice A1 Wt.length c1, .int .i64 st.count, .bool st.down, .slice A4 fl.length c4, .int .i64 rm] 57 (0, 0))) := ⟨blk_drew (st6_blk Y8.out (.slice A0 (filesL st.sure).length c0) (.slice A1 Wt.length c1) (.int .i64 st.count) (.bool st.down) (.slice A4 fl.length c4) (.int .i64 rm))⟩
 go_wp2
 refine bodyPost_ret (results_list (rs := [.tmp 6, .cell 7 57, .tmp 8]) rfl (by simp) (.tmp (.cell (W.heap.size + 2) 57 #[.slice A0 (filesL st.sure).length c0, .slice A1 Wt.length c1, .int .i64 st.count, .bool st.down, .slice A4 fl.length c4, .int .i64 rm] (0, 0) _ rfl YE.out Try.underlying57 rfl (by kernel_rfl) (.tmp .nil)))) rfl ?_
 exact ⟨dc, st, _, _, _, Wt, fl, rm, rfl, TW.out, HRN.out, BE.out, KE.out⟩
theorem one_plan {w0 W : World} {d i q0 q1 : Nat} {st : DK} {v0 v1 v4 : Value} {Wt : List S86} {fl : List S90} {rm : Int} (hq0 : q0 < W.heap.size ∧ q1 < W.heap.size) (hT : Two w0.heap.size q0 q1 W d st v0 v1 v4 st.sure Wt fl) (hR : RelA i st Wt fl rm) (hi : i ≤ 500) (hB : Below w0.heap.size w0 W) (k : Int) (a b s : ByteArray) (n x5 x6 x7 : Int) (A : Option Addr) (c : Nat) (pl : List S23) (hpl : Kd.C k23 w0 A pl.length pl) (hplc : pl.length ≤ c) (hpln : pl.length * 24 ≤ 140737488351232) (ha : a.size ≤ BM) (hb : b.size ≤ BM) (hs : s.size ≤ BM) (hk : k = 8) :
  Calls Try.prog 29 #[.pointer (some ⟨d, 0, none⟩), .agg #[v0, v1, .int .i64 st.count, .bool st.down, v4, .int .i64 rm], .agg #[.int .i64 k, .string a, .string b, .string s, .int .i64 n, .int .i64 x5, .int .i64 x6, .int .i64 x7, .slice A pl.length c]] W (OneP w0 q0 q1 W i) := by
 have hu57 := Try.underlying57
 have hua := Try.underlying40
 have huf := Try.underlying23
 obtain ⟨ok, hok, hI, hM⟩ := hT
 obtain ⟨A0, c0, A1, c1, A4, c4, rfl, rfl, rfl⟩ := hM.slices
 obtain ⟨g1, g2, g3, g4, g5⟩ := alloc3 W (.cells #[.slice A0 (filesL st.sure).length c0, .slice A1 Wt.length c1, .int .i64 st.count, .bool st.down, .slice A4 fl.length c4, .int .i64 rm] 57 (0, 0)) (.cells #[.int .i64 k, .string a, .string b, .string s, .int .i64 n, .int .i64 x5, .int .i64 x6, .int .i64 x7, .slice A pl.length c] 40 (0, 0)) (.cells #[.slice none 0 0, .slice none 0 0, .int .i64 0, .bool false, .slice none 0 0, .int .i64 0] 57 (0, 0))
 obtain ⟨w1, hw1⟩ : ∃ w1, w1 = ((W.alloc (.cells #[.slice A0 (filesL st.sure).length c0, .slice A1 Wt.length c1, .int .i64 st.count, .bool st.down, .slice A4 fl.length c4, .int .i64 rm] 57 (0, 0))).alloc (.cells #[.int .i64 k, .string a, .string b, .string s, .int .i64 n, .int .i64 x5, .int .i64 x6, .int .i64 x7, .slice A pl.length c] 40 (0, 0))).alloc (.cells #[.slice none 0 0, .slice none 0 0, .int .i64 0, .bool false, .slice none 0 0, .int .i64 0] 57 (0, 0)) := ⟨_, rfl⟩
 rw [← hw1] at g1 g2 g3 g4 g5
 have X4 := Aside0.mk g1
 have X5 := Aside0.mk g2
 have X7 := Aside0.mk g3
 have B1 := Aside0.mk g4
 have SZ := Aside0.mk g5
 have I1 := Aside0.mk (hI.below g4)
 have M1 := Aside0.mk (hM.below g4)
 have HQ0 := Aside0.mk hq0
 have OKK : Aside0 (∀ q, ok q → w0.heap.size ≤ q ∧ q < W.heap.size) := ⟨fun q h => ⟨(hok q h).1.1, (hok q h).2⟩⟩
 have OKQ : Aside0 (∀ q, ok q → (q ≠ q0 ∧ q ≠ q1)) := ⟨fun q h => (hok q h).1.2⟩
 have KQ1 : Aside0 (Kp (fun q => (q ≠ q0 ∧ q ≠ q1)) W w1) := ⟨Kp.of_below g4⟩
 have HB := Aside0.mk hB
 have HR := Aside0.mk hR
 have HI := Aside0.mk hi
 have HPC := Aside0.mk hplc
 have HPN := Aside0.mk hpln
 have HPL : Aside0 (∀ w', Below w1.heap.size w1 w' → Kd.C k23 w' A pl.length pl) := ⟨fun w' hb => Kd.C_below hpl (hB.trans ((g4.trans (hb.mono g4.size)).mono hB.size))⟩
 have HP0 : Aside0 (∀ w', Below w0.heap.size w0 w' → Kd.C k23 w' A pl.length pl) := ⟨fun w' hb => Kd.C_below hpl hb⟩
 have HSA := Aside0.mk ha
 have HSB := Aside0.mk hb
 have HSS := Aside0.mk hs
 have HK := Aside0.mk hk
 clear hq0 hok hI hM hR hi hB hpl hplc hpln ha hb hs hk g1 g2 g3 g4 g5
 go_enter Try.func29, Try.ntmps29
 go_upto_region 1 with (fail)
 rw [← hw1]
 clear hw1
 have e5_0 := (blk_cell X5.out 0).trans rfl
 have e5_1 := (blk_cell X5.out 1).trans rfl
 have e5_2 := (blk_cell X5.out 2).trans rfl
 have e5_3 := (blk_cell X5.out 3).trans rfl
 have e5_4 := (blk_cell X5.out 4).trans rfl
 have e5_5 := (blk_cell X5.out 5).trans rfl
 have e5_6 := (blk_cell X5.out 6).trans rfl
 have e5_7 := (blk_cell X5.out 7).trans rfl
 have e5_8 := (blk_cell X5.out 8).trans rfl
 have e4_0 := (blk_cell X4.out 0).trans rfl
 have e4_1 := (blk_cell X4.out 1).trans rfl
 have e4_2 := (blk_cell X4.out 2).trans rfl
 have e4_3 := (blk_cell X4.out 3).trans rfl
 have e4_4 := (blk_cell X4.out 4).trans rfl
 have e4_5 := (blk_cell X4.out 5).trans rfl
 have kq0 : (k == 0) = false := beq_eq_false_iff_ne.mpr (by have := HK.out; omega)
 have kq1 : (k == 1) = false := beq_eq_false_iff_ne.mpr (by have := HK.out; omega)
 have kq2 : (k == 2) = false := beq_eq_false_iff_ne.mpr (by have := HK.out; omega)
 have kq3 : (k == 3) = false := beq_eq_false_iff_ne.mpr (by have := HK.out; omega)
 have kq4 : (k == 4) = false := beq_eq_false_iff_ne.mpr (by have := HK.out; omega)
 have kq5 : (k == 5) = false := beq_eq_false_iff_ne.mpr (by have := HK.out; omega)
 have kq6 : (k == 6) = false := beq_eq_false_iff_ne.mpr (by have := HK.out; omega)
 have kq7 : (k == 7) = false := beq_eq_false_iff_ne.mpr (by have := HK.out; omega)
 have q8 : (k == 8) = true := beq_iff_eq.mpr HK.out
 have HRN := Aside0.mk (plan_rel HR.out (pl.map falOf) (pl.map falTo) (by rw [List.length_map]; exact HPN.out) (fal_same pl))
 have LX4 := Aside0.mk (blk_lt X4.out)
 have LX5 := Aside0.mk (blk_lt X5.out)
 have LX7 := Aside0.mk (blk_lt X7.out)
 have OK1 : Aside0 (∀ q, (ok q ∨ w1.heap.size ≤ q) → q ≠ W.heap.size ∧ q ≠ W.heap.size + 1 ∧ q ≠ W.heap.size + 2 ∧ w0.heap.size ≤ q ∧ (q ≠ q0 ∧ q ≠ q1)) := ⟨fun q hq => by
  have h1 := SZ.out
  have h2 := HB.out.size
  have h3 := HQ0.out
  rcases hq with hq | hq
  ·have := OKK.out q hq
   have := OKQ.out q hq
   omega
  ·omega⟩
 have OKP : Aside0 (∀ q, (fun k => (¬ ok k ∧ (k ≠ q0 ∧ k ≠ q1)) ∧ k < W.heap.size) q → ¬ (ok q ∨ w1.heap.size ≤ q) ∧ q ≠ W.heap.size ∧ q ≠ W.heap.size + 1 ∧ q ≠ W.heap.size + 2 ∧ (q ≠ q0 ∧ q ≠ q1)) := ⟨fun q hq => by
  have h1 := SZ.out
  have h2 := hq.2
  exact ⟨fun h => h.elim hq.1.1 (fun h => by omega), by omega, by omega, by omega, hq.1.2⟩⟩
 have ID1 : Aside0 (IsD w1 d (fun q => ok q ∨ w1.heap.size ≤ q) st) := ⟨I1.out.mono (fun q hq => Or.inl hq)⟩
 have HN1 : Aside0 (∀ q, w1.heap.size ≤ q → (ok q ∨ w1.heap.size ≤ q)) := ⟨fun q hq => Or.inr hq⟩
 have B01 : Aside0 (Below w0.heap.size w0 w1) := ⟨HB.out.trans (B1.out.mono HB.out.size)⟩
 go_wp2_with (fail)
 have hp := plan_calls ID1.out HN1.out A c (pl.map falOf) (by rw [List.length_map]; exact C_falls (HPL.out w1 (Below.refl _ _))) (by rw [List.length_map]; have := HPN.out; omega)
 rw [List.length_map] at hp
 refine hp.mono ?_
 clear hp
 rintro e w6 ⟨rfl, hI6, hK6⟩
 have Y4 := Aside0.mk ((hK6.block W.heap.size LX4.out (fun h => (OK1.out _ h).1 rfl)).trans X4.out)
 have Y5 := Aside0.mk ((hK6.block (W.heap.size + 1) LX5.out (fun h => (OK1.out _ h).2.1 rfl)).trans X5.out)
 have Y7 := Aside0.mk ((hK6.block (W.heap.size + 2) LX7.out (fun h => (OK1.out _ h).2.2.1 rfl)).trans X7.out)
 have M6 := Aside0.mk (M1.out.step (fun q hq hlt => hK6.block q hlt (OKP.out q hq).1))
 have I6 := Aside0.mk hI6
 have B6 : Aside0 (Below w0.heap.size w0 w6) := ⟨B01.out.trans ((hK6.mono (fun q _ h => (OK1.out q h).2.2.2.1)).below B01.out.size)⟩
 have KQ6 : Aside0 (Kp (fun q => (q ≠ q0 ∧ q ≠ q1)) W w6) := ⟨KQ1.out.trans (hK6.mono (fun q _ h => (OK1.out q h).2.2.2.2))⟩
 clear hI6 hK6 e4_0 e4_1 e4_2 e4_3 e4_4 e4_5 e5_0 e5_1 e5_2 e5_3 e5_4 e5_5 e5_6 e5_7 e5_8 X4 X5 X7 I1 ID1 M1
 have e5_0 := (blk_cell Y5.out 0).trans rfl
 have e5_1 := (blk_cell Y5.out 1).trans rfl
 have e5_2 := (blk_cell Y5.out 2).trans rfl
 have e5_3 := (blk_cell Y5.out 3).trans rfl
 have e5_4 := (blk_cell Y5.out 4).trans rfl
 have e5_5 := (blk_cell Y5.out 5).trans rfl
 have e5_6 := (blk_cell Y5.out 6).trans rfl
 have e5_7 := (blk_cell Y5.out 7).trans rfl
 have e5_8 := (blk_cell Y5.out 8).trans rfl
 have e4_0 := (blk_cell Y4.out 0).trans rfl
 have e4_1 := (blk_cell Y4.out 1).trans rfl
 have e4_2 := (blk_cell Y4.out 2).trans rfl
 have e4_3 := (blk_cell Y4.out 3).trans rfl
 have e4_4 := (blk_cell Y4.out 4).trans rfl
 have e4_5 := (blk_cell Y4.out 5).trans rfl
 have HPC6 : Aside0 (∀ j, j < pl.length → ∃ ad, A = some ad ∧ ∀ w', Kp (fun q => q = W.heap.size ∨ w6.heap.size ≤ q) w6 w' → w'.cell? (ad.add (j * 3)) = some (.int .i64 (rd_T23 pl (j : Int)).f0) ∧ w'.cell? ⟨(ad.add (j * 3)).block, (ad.add (j * 3)).off + 1, none⟩ = some (.int .i64 (rd_T23 pl (j : Int)).f1) ∧ w'.cell? ⟨(ad.add (j * 3)).block, (ad.add (j * 3)).off + 2, none⟩ = some (.int .i64 (rd_T23 pl (j : Int)).f2)) := ⟨fun j hj => by
  obtain ⟨ad, e, _⟩ := at_T23 (HP0.out w6 B6.out) (j : Int) (by omega) (by omega)
  refine ⟨ad, e, fun w' hk => ?_⟩
  obtain ⟨ad', e', h0, h1, h2⟩ := at_T23 (HP0.out w' (B6.out.trans ((hk.mono (fun q hlt h => (by have := HB.out.size; have := B6.out.size; omega : w0.heap.size ≤ q))).below B6.out.size))) (j : Int) (by omega) (by omega)
  rw [e] at e'
  injection e' with e'
  subst e'
  rw [Int.toNat_natCast] at h0 h1 h2
  exact ⟨h0, h1, h2⟩⟩
 have f4_0 := blk_frozen Y4.out 0
 have f4_1 := blk_frozen Y4.out 1
 have f4_2 := blk_frozen Y4.out 2
 have f4_3 := blk_frozen Y4.out 3
 have f4_4 := blk_frozen Y4.out 4
 have f4_5 := blk_frozen Y4.out 5
 go_upto_region 22 with (fail)
 have far : ∀ q, q ≠ W.heap.size → (w6.setCell ⟨W.heap.size, 4, none⟩ (.slice none 0 0)).heap[q]? = w6.heap[q]? := fun q hq => Below.heap_setCell _ _ _ q hq
 have Y4n := Aside0.mk (blk_put (cs' := #[.slice A0 (filesL st.sure).length c0, .slice A1 Wt.length c1, .int .i64 st.count, .bool st.down, .slice none 0 0, .int .i64 rm]) Y4.out 4 (.slice none 0 0) rfl)
 have KS : Aside0 (Kp (fun q => q = W.heap.size ∨ w6.heap.size ≤ q) w6 (w6.setCell ⟨W.heap.size, 4, none⟩ (.slice none 0 0))) := ⟨(Kp.refl _ _).set (Or.inl rfl) _⟩
 have L4 := Aside0.mk (blk_lt Y4.out)
 have L5 := Aside0.mk (blk_lt Y5.out)
 have L7 := Aside0.mk (blk_lt Y7.out)
 clear far Y4 e4_0 e4_1 e4_2 e4_3 e4_4 e4_5 e5_0 e5_1 e5_2 e5_3 e5_4 e5_5 e5_6 e5_7 e5_8 f4_0 f4_1 f4_2 f4_3 f4_4 f4_5
 generalize w6.setCell ⟨W.heap.size, 4, none⟩ (.slice none 0 0) = w8 at Y4n KS ⊢
 have NK5 : Aside0 (¬ (W.heap.size + 1 = W.heap.size ∨ w6.heap.size ≤ W.heap.size + 1)) := ⟨by have := L5.out; omega⟩
 have NK7 : Aside0 (¬ (W.heap.size + 2 = W.heap.size ∨ w6.heap.size ≤ W.heap.size + 2)) := ⟨by have := L7.out; omega⟩
 go_wp2_with (fail)
 go_loopg [14] (pl.length + 1) (fun kq v14 w' => ∃ (j : Nat) (v : Value), v14 = .int .i64 (j : Int) ∧ Aside0 (j + kq = pl.length + 1 ∧ j ≤ pl.length) ∧ Aside0 (w'.heap[W.heap.size]? = some (.cells #[.slice A0 (filesL st.sure).length c0, .slice A1 Wt.length c1, .int .i64 st.count, .bool st.down, v, .int .i64 rm] 57 (0, 0))) ∧ Aside0 (Kd.R k90 90 w' w6.heap.size (fun q => w6.heap.size ≤ q) v ((pl.take j).map falTo)) ∧ Aside0 (Kp (fun q => q = W.heap.size ∨ w6.heap.size ≤ q) w6 w'))
 case atStart => exact ⟨0, .slice none 0 0, rfl, ⟨by omega, by omega⟩, Y4n, ⟨Kd.R_nil _ _ _ _ _⟩, KS⟩
 case round =>
  obtain ⟨j, v, rfl, HJ, H4, RV, HKP⟩ := hrel
  cases gk with
  | zero => have := HJ.out; omega
  | succ k1 =>
   have Z5 := Aside0.mk ((HKP.out.block _ L5.out NK5.out).trans Y5.out)
   have e5r := (blk_cell Z5.out 8).trans rfl
   by_cases hj : j < pl.length
   ·have hlt : ((j : Int) < (pl.length : Int)) = True := eq_true (by omega)
    obtain ⟨ad, rfl, hpc⟩ := HPC6.out j hj
    obtain ⟨x, hx⟩ : ∃ x, x = rd_T23 pl (j : Int) := ⟨_, rfl⟩
    rw [← hx] at hpc
    have PC := Aside0.mk hpc
    have HJJ := Aside0.mk hj
    have HXX := Aside0.mk hx
    have e4r := (blk_cell H4.out 4).trans rfl
    have HSZ : Aside0 (w6.heap.size ≤ wr.drew.heap.size) := ⟨HKP.out.size⟩
    have hj1 : (0 : Int) ≤ (j : Int) := by omega
    clear hpc hx hj
    go_upto_region 25 with (fail)
    refine start_ (n := 11) (S := fun w' => w'.cell? ⟨W.heap.size, 4, none⟩ = some v ∧ w'.cell? ⟨W.heap.size + 1, 8, none⟩ = some (.slice (some ad) pl.length c) ∧ w'.cell? (ad.add (j * 3)) = some (.int .i64 x.f0) ∧ w'.cell? ⟨(ad.add (j * 3)).block, (ad.add (j * 3)).off + 1, none⟩ = some (.int .i64 x.f1) ∧ w'.cell? ⟨(ad.add (j * 3)).block, (ad.add (j * 3)).off + 2, none⟩ = some (.int .i64 x.f2)) (ds := [10]) #[false, false, false, false, false, false, false, false, false, false, false] (by kernel_rfl) rfl rfl ⟨e4r, e5r, (PC.out _ HKP.out.drew).1, (PC.out _ HKP.out.drew).2.1, (PC.out _ HKP.out.drew).2.2⟩ (fun hHeld => ?_)
    refine pure_ (i := 0) (N := some 95) (v := ?_) (a' := ?_) #[true, false, false, false, false, false, false, false, false, false, false] rfl rfl (by kernel_rfl) (fun _ _ _ h => h) (Or.inl ⟨by rfl, ?_⟩) ?_ ?_
    rotate_left
    ·intro w'
     go_simp
     with_reducible rfl
    rotate_left
    ·simp only [Act.put, List.setIfInBounds_toArray, List.set_cons_zero, List.set_cons_succ]
     rfl
    refine take_ (i := 1) (N := some 96) (v := ?_) (a' := ?_) #[true, true, false, false, false, false, false, false, false, false, false] rfl rfl (by kernel_rfl) (fun _ _ _ h => h) (Or.inl ⟨by rfl, ?_⟩) (by first | exact hHeld | assumption) ?_ ?_
    rotate_left
    ·rintro w' ⟨s0, s1, s2, s3, s4⟩
     go_simp
     with_reducible rfl
    rotate_left
    ·simp only [Act.put, List.setIfInBounds_toArray, List.set_cons_zero, List.set_cons_succ]
     rfl
    refine pure_ (i := 2) (N := some 97) (v := ?_) (a' := ?_) #[true, true, true, false, false, false, false, false, false, false, false] rfl rfl (by kernel_rfl) (fun _ _ _ h => h) (Or.inl ⟨by rfl, ?_⟩) ?_ ?_
    rotate_left
    ·intro w'
     go_simp
     with_reducible rfl
    rotate_left
    ·simp only [Act.put, List.setIfInBounds_toArray, List.set_cons_zero, List.set_cons_succ]
     rfl
    refine take_ (i := 3) (N := some 98) (v := ?_) (a' := ?_) #[true, true, true, true, false, false, false, false, false, false, false] rfl rfl (by kernel_rfl) (fun _ _ _ h => h) (Or.inl ⟨by rfl, ?_⟩) (by first | exact hHeld | assumption) ?_ ?_
    rotate_left
    ·rintro w' ⟨s0, s1, s2, s3, s4⟩
     go_simp
     with_reducible rfl
    rotate_left
    ·simp only [Act.put, List.setIfInBounds_toArray, List.set_cons_zero, List.set_cons_succ]
     rfl
    refine pure_ (i := 4) (N := some 99) (v := ?_) (a' := ?_) #[true, true, true, true, true, false, false, false, false, false, false] rfl rfl (by kernel_rfl) (fun _ _ _ h => h) (Or.inl ⟨by rfl, ?_⟩) ?_ ?_
    rotate_left
    ·intro w'
     go_simp
     with_reducible rfl
    rotate_left
    ·simp only [Act.put, List.setIfInBounds_toArray, List.set_cons_zero, List.set_cons_succ]
     rfl
    refine pure_ (i := 5) (N := some 100) (v := ?_) (a' := ?_) #[true, true, true, true, true, true, false, false, false, false, false] rfl rfl (by kernel_rfl) (fun _ _ _ h => h) (Or.inl ⟨by rfl, ?_⟩) ?_ ?_
    rotate_left
    ·intro w'
     go_simp
     with_reducible rfl
    rotate_left
    ·simp only [Act.put, List.setIfInBounds_toArray, List.set_cons_zero, List.set_cons_succ]
     rfl
    refine take_ (i := 6) (N := some 101) (v := ?_) (a' := ?_) #[true, true, true, true, true, true, true, false, false, false, false] rfl rfl (by kernel_rfl) (fun _ _ _ h => h) (Or.inl ⟨by rfl, ?_⟩) (by first | exact hHeld | assumption) ?_ ?_
    rotate_left
    ·rintro w' ⟨s0, s1, s2, s3, s4⟩
     go_simp
     with_reducible rfl
    rotate_left
    ·simp only [Act.put, List.setIfInBounds_toArray, List.set_cons_zero, List.set_cons_succ]
     rfl
    refine one_ (i := 7) (N := some 102) #[true, true, true, true, true, true, true, true, false, false, false] rfl rfl (by kernel_rfl) (by decide) (fun K hK => ?_)
    refine event_step (v := .slice (some ⟨wr.drew.heap.size, 0, none⟩) 1 1) (w1 := (wr.drew.alloc (.cells #[.int .i64 x.f0, .int .i64 x.f1, .int .i64 x.f2] 90 (0, 0)))) (by rfl) (by first | (go_simp; done) | (go_simp; rfl)) ?_
    have q1 : Aside0 (Kp (fun q => q = W.heap.size ∨ w6.heap.size ≤ q) w6 (wr.drew.alloc (.cells #[.int .i64 x.f0, .int .i64 x.f1, .int .i64 x.f2] 90 (0, 0)))) := ⟨HKP.out.drew.alloc _⟩
    have q2 : Aside0 ((wr.drew.alloc (.cells #[.int .i64 x.f0, .int .i64 x.f1, .int .i64 x.f2] 90 (0, 0))).heap[W.heap.size]? = some (.cells #[.slice A0 (filesL st.sure).length c0, .slice A1 Wt.length c1, .int .i64 st.count, .bool st.down, v, .int .i64 rm] 57 (0, 0))) := ⟨(Below.heap_alloc wr.drew _ _ (blk_lt H4.out)).trans H4.out⟩
    have q3 : Aside0 ((wr.drew.alloc (.cells #[.int .i64 x.f0, .int .i64 x.f1, .int .i64 x.f2] 90 (0, 0))).heap[W.heap.size + 1]? = some (.cells #[.int .i64 k, .string a, .string b, .string s, .int .i64 n, .int .i64 x5, .int .i64 x6, .int .i64 x7, .slice (some ad) pl.length c] 40 (0, 0))) := ⟨(q1.out.block _ L5.out NK5.out).trans Y5.out⟩
    refine hK.out _ _ ⟨(blk_cell q2.out 4).trans rfl, (blk_cell q3.out 8).trans rfl, (PC.out _ q1.out).1, (PC.out _ q1.out).2.1, (PC.out _ q1.out).2.2⟩ (fun hHeld => ?_)
    clear hK K
    refine norm_ (a' := ?_) ?_ ?_
    rotate_left
    ·show Act.put _ (some 102) _ = _
     simp only [Act.put, List.setIfInBounds_toArray, List.set_cons_zero, List.set_cons_succ]
     rfl
    refine one_ (i := 8) (N := some 103) #[true, true, true, true, true, true, true, true, true, false, false] rfl rfl (by kernel_rfl) (by decide) (fun K hK => ?_)
    refine Kd.R_append_step k90 (w0 := wr.drew) w6.heap.size (by rfl) _ _ 55 90 (.agg #[(.int .i64 0), (.int .i64 0), (.int .i64 0)]) 24 (by rfl) Try.underlying55 info90 rfl (by decide) (by decide) v ((pl.take j).map falTo) (falTo x) [.int .i64 x.f0, .int .i64 x.f1, .int .i64 x.f2] (fun q => w6.heap.size ≤ q) (fun _ => False) (by rfl) (by rfl) (k90_mkM _ _ _ (falTo x)) (fun _ hk => hk.elim) (fun q hq => Nat.le_trans HSZ.out hq) RV.out (Below.refl _ _) HSZ.out (by rw [List.length_map, List.length_take]; have := HPN.out; have := HJ.out; omega) ?_
    intro v1 w9 hR hB hG hat
    obtain ⟨A1n, c1n, hv1⟩ := Kd.R_slice hR
    have hlen : ((pl.take j).map falTo ++ [falTo x]).length = j + 1 := by
     rw [List.length_append, List.length_map, List.length_take]
     simp only [List.length_cons, List.length_nil]
     have := HJJ.out
     omega
    rw [hlen] at hv1
    subst hv1
    clear hlen
    have q4 := Aside0.mk hR
    have q5 := Aside0.mk hG
    have q6 : Aside0 (Kp (fun q => q = W.heap.size ∨ w6.heap.size ≤ q) w6 w9) := ⟨HKP.out.drew.trans (Kp.of_grown q5.out (fun k e => Or.inr (Kd.R_base RV.out k e)))⟩
    have q7 : Aside0 (w9.heap[W.heap.size]? = some (.cells #[.slice A0 (filesL st.sure).length c0, .slice A1 Wt.length c1, .int .i64 st.count, .bool st.down, v, .int .i64 rm] 57 (0, 0))) := ⟨(q5.out.block W.heap.size (blk_lt H4.out) (fun e => by have h := Kd.R_base RV.out _ e.symm; have := L4.out; omega)).trans H4.out⟩
    have q8 : Aside0 (w9.heap[W.heap.size + 1]? = some (.cells #[.int .i64 k, .string a, .string b, .string s, .int .i64 n, .int .i64 x5, .int .i64 x6, .int .i64 x7, .slice (some ad) pl.length c] 40 (0, 0))) := ⟨(q6.out.block _ L5.out NK5.out).trans Y5.out⟩
    have q9 := (blk_cell q7.out 4).trans rfl
    have q10 := blk_frozen q7.out 4
    clear hR hB hG hat
    refine hK.out _ _ ⟨(blk_cell q7.out 4).trans rfl, (blk_cell q8.out 8).trans rfl, (PC.out _ q6.out).1, (PC.out _ q6.out).2.1, (PC.out _ q6.out).2.2⟩ (fun hHeld => ?_)
    clear hK K
    refine norm_ (a' := ?_) ?_ ?_
    rotate_left
    ·show Act.put _ (some 103) _ = _
     simp only [Act.put, List.setIfInBounds_toArray, List.set_cons_zero, List.set_cons_succ]
     rfl
    refine pure_ (i := 9) (N := some 104) (v := ?_) (a' := ?_) #[true, true, true, true, true, true, true, true, true, true, false] rfl rfl (by kernel_rfl) (fun _ _ _ h => h) (Or.inl ⟨by rfl, ?_⟩) ?_ ?_
    rotate_left
    ·intro w'
     go_simp
     with_reducible rfl
    rotate_left
    ·simp only [Act.put, List.setIfInBounds_toArray, List.set_cons_zero, List.set_cons_succ]
     rfl
    refine last_ (i := 10) (N := none) #[true, true, true, true, true, true, true, true, true, true, true] rfl rfl (by kernel_rfl) (by decide) (fun K hK => ?_)
    refine skip_ (w1 := ?_) (by rfl) rfl ?_ ?_
    rotate_left
    ·go_simp
     rfl
    refine hK.out _ _ ?_
    clear hK K
    refine done_ (by kernel_rfl) ?_
    clear hHeld q9 q10 e4r e5r
    have q11 := Aside0.mk (blk_put (cs' := #[.slice A0 (filesL st.sure).length c0, .slice A1 Wt.length c1, .int .i64 st.count, .bool st.down, .slice A1n (j + 1) c1n, .int .i64 rm]) q7.out 4 (.slice A1n (j + 1) c1n) rfl)
    have q12 := Aside0.mk (R_keepT q4.out (w1 := w9.setCell ⟨W.heap.size, 4, none⟩ (.slice A1n (j + 1) c1n)) (fun q _ _ ht => Below.heap_setCell _ _ _ q (typed_ne ht q7.out (by decide))))
    have q13 := Aside0.mk (q6.out.set (p := ⟨W.heap.size, 4, none⟩) (Or.inl rfl) (.slice A1n (j + 1) c1n))
    have hj9 : wrap64 ((j : Int) + 1) = ((j + 1 : Nat) : Int) := w1n j (by have := HJJ.out; have := HPN.out; omega)
    clear q1 q2 q3 q4 q5 q6 q7 q8
    go_wp2
    go_roundg k1
    case measure => have := HJ.out; omega
    case rel =>
     refine ⟨j + 1, _, by rw [hj9], ⟨by have := HJ.out; omega, by have := HJJ.out; omega⟩, q11, ⟨?_⟩, q13⟩
     have e : (pl.take (j + 1)).map falTo = (pl.take j).map falTo ++ [falTo x] := by
      rw [List.take_succ_eq_append_getElem HJJ.out, List.map_append, HXX.out]
      unfold rd_T23
      rw [Int.toNat_natCast, List.getD_eq_getElem?_getD, List.getElem?_eq_getElem HJJ.out]
      rfl
     rw [e]
     exact q12.out
   ·obtain rfl : j = pl.length := by have := HJ.out; omega
    have hlt : ((pl.length : Int) < (pl.length : Int)) = False := eq_false (by omega)
    have hrv := RV.out
    rw [List.take_length] at hrv
    obtain ⟨A5, c5, hv5⟩ := Kd.R_slice hrv
    rw [List.length_map] at hv5
    subst hv5
    have RVE := Aside0.mk hrv
    clear hrv RV hj
    have Y4 := H4
    have Y8 := Aside0.mk ((HKP.out.block _ L7.out NK7.out).trans Y7.out)
    have IC : Aside0 (IsD wr d (fun q => (ok q ∨ w1.heap.size ≤ q) ∧ q < w6.heap.size) ({ st with falls := pl.map falOf } : DK)) := ⟨I6.out.bound.step (fun q hq _ => HKP.out.block q hq.2 (fun h => h.elim (OK1.out q hq.1).1 (fun h => by have := hq.2; omega)))⟩
    have MC : Aside0 (RefM wr (fun q => (fun k => (¬ ok k ∧ (k ≠ q0 ∧ k ≠ q1)) ∧ k < W.heap.size) q ∨ w6.heap.size ≤ q) (.slice A0 (filesL st.sure).length c0) (.slice A1 Wt.length c1) (.slice A5 pl.length c5) st.sure Wt (pl.map falTo)) := ⟨by
     have h := (M6.out.step (W' := wr) (fun q hq hlt => HKP.out.block q hlt (fun h => h.elim (OKP.out q hq).2.1 (fun h => by omega)))).mono (fun q hq => (Or.inl hq : (fun k => (¬ ok k ∧ (k ≠ q0 ∧ k ≠ q1)) ∧ k < W.heap.size) q ∨ w6.heap.size ≤ q))
     exact ⟨h.s, h.w, Kd.V_mono (Kd.R_V RVE.out) (fun q hq => Or.inr hq)⟩⟩
    have BC : Aside0 (Below w0.heap.size w0 wr) := ⟨B6.out.trans ((HKP.out.mono (fun q hlt h => (by have := HB.out.size; have := B6.out.size; omega : w0.heap.size ≤ q))).below B6.out.size)⟩
    have HBW : Aside0 (w0.heap.size ≤ W.heap.size) := ⟨HB.out.size⟩
    have OKD : Aside0 (∀ q, ((ok q ∨ w1.heap.size ≤ q) ∧ q < w6.heap.size) → q ≠ W.heap.size + 2 ∧ w0.heap.size ≤ q ∧ (q ≠ q0 ∧ q ≠ q1)) := ⟨fun q hq => ⟨(OK1.out q hq.1).2.2.1, (OK1.out q hq.1).2.2.2⟩⟩
    have PD : Aside0 (∀ q, ((fun k => (¬ ok k ∧ (k ≠ q0 ∧ k ≠ q1)) ∧ k < W.heap.size) q ∨ w6.heap.size ≤ q) → (¬ ((ok q ∨ w1.heap.size ≤ q) ∧ q < w6.heap.size) ∧ (q ≠ q0 ∧ q ≠ q1)) ∧ q ≠ W.heap.size + 2) := ⟨fun q hq => hq.elim (fun h => ⟨⟨fun h2 => (OKP.out q h).1 h2.1, (OKP.out q h).2.2.2.2⟩, (OKP.out q h).2.2.2.1⟩) (fun h => ⟨⟨fun h2 => by have := h2.2; omega, by have := L7.out; have := HQ0.out; omega⟩, by have := L7.out; omega⟩)⟩
    have KQC : Aside0 (Kp (fun q => (q ≠ q0 ∧ q ≠ q1)) W wr) := ⟨KQ6.out.trans (HKP.out.mono (fun q hlt h => by have := HQ0.out; have := L7.out; omega))⟩
    have Y4' := Y4
    clear H4 Z5 HKP M6 I6 Y4'
    have LY4 := Aside0.mk (blk_lt Y4.out)
    have ZR : Aside0 (Kp (fun q => q = W.heap.size + 2) wr wr) := ⟨Kp.refl _ _⟩
    have HSk : Aside0 (∀ w' : World, Kp (fun q => q = W.heap.size + 2) wr w' → w'.cell? ⟨W.heap.size, 0, none⟩ = some (.slice A0 (filesL st.sure).length c0) ∧ w'.cell? ⟨W.heap.size, 1, none⟩ = some (.slice A1 Wt.length c1) ∧ w'.cell? ⟨W.heap.size, 2, none⟩ = some (.int .i64 st.count) ∧ w'.cell? ⟨W.heap.size, 3, none⟩ = some (.bool st.down) ∧ w'.cell? ⟨W.heap.size, 4, none⟩ = some (.slice A5 pl.length c5) ∧ w'.cell? ⟨W.heap.size, 5, none⟩ = some (.int .i64 rm)) := ⟨fun w' hf => by
     have z4 := (hf.block W.heap.size LY4.out (by omega)).trans Y4.out
     exact ⟨(blk_cell z4 0).trans rfl, (blk_cell z4 1).trans rfl, (blk_cell z4 2).trans rfl, (blk_cell z4 3).trans rfl, (blk_cell z4 4).trans rfl, (blk_cell z4 5).trans rfl⟩⟩
    have g7_0 := (blk_cell Y8.out 0).trans rfl
    have g7_1 := (blk_cell Y8.out 1).trans rfl
    have g7_2 := (blk_cell Y8.out 2).trans rfl
    have g7_3 := (blk_cell Y8.out 3).trans rfl
    have g7_4 := (blk_cell Y8.out 4).trans rfl
    have g7_5 := (blk_cell Y8.out 5).trans rfl
    have h7_0 := blk_frozen Y8.out 0
    have h7_1 := blk_frozen Y8.out 1
    have h7_2 := blk_frozen Y8.out 2
    have h7_3 := blk_frozen Y8.out 3
    have h7_4 := blk_frozen Y8.out 4
    have h7_5 := blk_frozen Y8.out 5
    go_upto_region 26 with (fail)
    go_region_held3 (fun w' => w'.cell? ⟨W.heap.size, 0, none⟩ = some (.slice A0 (filesL st.sure).length c0) ∧ w'.cell? ⟨W.heap.size, 1, none⟩ = some (.slice A1 Wt.length c1) ∧ w'.cell? ⟨W.heap.size, 2, none⟩ = some (.int .i64 st.count) ∧ w'.cell? ⟨W.heap.size, 3, none⟩ = some (.bool st.down) ∧ w'.cell? ⟨W.heap.size, 4, none⟩ = some (.slice A5 pl.length c5) ∧ w'.cell? ⟨W.heap.size, 5, none⟩ = some (.int .i64 rm)) ((refine HSk.out _ ?_; (repeat (first | (with_reducible exact ZR.out) | (with_reducible refine Kp.drew ?_) | ((with_reducible refine Kp.set ?_ ?_ _); rotate_left; (exact rfl)))))) (fail)
    have TW : Aside0 (Two w0.heap.size q0 q1 (st6 wr (W.heap.size + 2) (.slice A0 (filesL st.sure).length c0) (.slice A1 Wt.length c1) (.int .i64 st.count) (.bool st.down) (.slice A5 pl.length c5) (.int .i64 rm)).drew d ({ st with falls := pl.map falOf } : DK) (.slice A0 (filesL st.sure).length c0) (.slice A1 Wt.length c1) (.slice A5 pl.length c5) st.sure Wt (pl.map falTo)) := ⟨by
     refine Two.drew ?_
     refine Two.far (W := wr) (q := W.heap.size + 2) ⟨_, fun q hq => ⟨(OKD.out q hq).2, (OKD.out q hq).1⟩, IC.out, ?_⟩ (fun q hq => st6_far wr (W.heap.size + 2) (.slice A0 (filesL st.sure).length c0) (.slice A1 Wt.length c1) (.int .i64 st.count) (.bool st.down) (.slice A5 pl.length c5) (.int .i64 rm) q hq)
     exact MC.out.mono (fun q hq => PD.out q hq)⟩
    have KE : Aside0 (Kp (fun q => (q ≠ q0 ∧ q ≠ q1)) W (st6 wr (W.heap.size + 2) (.slice A0 (filesL st.sure).length c0) (.slice A1 Wt.length c1) (.int .i64 st.count) (.bool st.down) (.slice A5 pl.length c5) (.int .i64 rm)).drew) := ⟨Kp.drew (kp_far6 KQC.out (by have := HQ0.out; omega) (.slice A0 (filesL st.sure).length c0) (.slice A1 Wt.length c1) (.int .i64 st.count) (.bool st.down) (.slice A5 pl.length c5) (.int .i64 rm))⟩
    have BE : Aside0 (Below w0.heap.size w0 (st6 wr (W.heap.size + 2) (.slice A0 (filesL st.sure).length c0) (.slice A1 Wt.length c1) (.int .i64 st.count) (.bool st.down) (.slice A5 pl.length c5) (.int .i64 rm)).drew) := ⟨below_drew1 (st6_below BC.out (by have := HBW.out; omega) _ _ _ _ _ _)⟩
    have YE : Aside0 ((st6 wr (W.heap.size + 2) (.slice A0 (filesL st.sure).length c0) (.slice A1 Wt.length c1) (.int .i64 st.count) (.bool st.down) (.slice A5 pl.length c5) (.int .i64 rm)).drew.heap[W.heap.size + 2]? = some (.cells #[.slice A0 (filesL st.sure).length c0, .slice A1 Wt.length c1, .int .i64 st.count, .bool st.down, .slice A5 pl.length c5, .int .i64 rm] 57 (0, 0))) := ⟨blk_drew (st6_blk Y8.out (.slice A0 (filesL st.sure).length c0) (.slice A1 Wt.length c1) (.int .i64 st.count) (.bool st.down) (.slice A5 pl.length c5) (.int .i64 rm))⟩
    go_wp2
    refine bodyPost_ret (results_list (rs := [.tmp 6, .cell 7 57, .tmp 8]) rfl (by simp) (.tmp (.cell (W.heap.size + 2) 57 #[.slice A0 (filesL st.sure).length c0, .slice A1 Wt.length c1, .int .i64 st.count, .bool st.down, .slice A5 pl.length c5, .int .i64 rm] (0, 0) _ rfl YE.out Try.underlying57 rfl (by kernel_rfl) (.tmp .nil)))) rfl ?_
    exact ⟨d, ({ st with falls := pl.map falOf } : DK), _, _, _, Wt, (pl.map falTo), rm, rfl, TW.out, HRN.out, BE.out, KE.out⟩
theorem names_down {w : World} {d : Nat} {ok : Nat → Prop} {st : DK} (h : IsD w d ok st) (hd : st.down = true) : Calls Try.prog 26 #[.pointer (some ⟨d, 0, none⟩)] w fun e w' => e = .returned (.slice none 0 0) ∧ Below w.heap.size w w' := by
 have hu := Try.underlying70
 obtain ⟨bs, bn, vw, vf, h⟩ := h
 have hc4 : w.cell? ⟨d, 4, none⟩ = some (.bool true) := by rw [h.c4, hd]
 clear h hd
 go_enter Try.func26, Try.ntmps26
 go_wp2
 go_ret
 exact ⟨rfl, by first | exact Below.refl _ _ | exact below_drew1 (Below.refl _ _)⟩
theorem says_calls {W : World} {base d i q0 q1 : Nat} {st : DK} {v0 v1 v4 : Value} {Wt : List S86} {fl : List S90} {rm : Int} (hT : Two base q0 q1 W d st v0 v1 v4 st.sure Wt fl) (hR : RelA i st Wt fl rm) (hi : i ≤ 1000) (nm : ByteArray) (hn : nm.size ≤ 9223372036854775807) :
  Calls Try.prog 30 #[.pointer (some ⟨d, 0, none⟩), .agg #[v0, v1, .int .i64 st.count, .bool st.down, v4, .int .i64 rm], .string nm] W fun e w' => e = .returned (.bool true) ∧ Below W.heap.size W w' := by
 have hu57 := Try.underlying57
 obtain ⟨ok, hok, hI, hM⟩ := hT
 obtain ⟨A0, c0, A1, c1, A4, c4, rfl, rfl, rfl⟩ := hM.slices
 have b1 : Below W.heap.size W (W.alloc (.cells #[.slice A0 (filesL st.sure).length c0, .slice A1 Wt.length c1, .int .i64 st.count, .bool st.down, .slice A4 fl.length c4, .int .i64 rm] 57 (0, 0))) := below_alloc (Below.refl _ _) _
 have X4 := Aside0.mk (heap_alloc_new W (.cells #[.slice A0 (filesL st.sure).length c0, .slice A1 Wt.length c1, .int .i64 st.count, .bool st.down, .slice A4 fl.length c4, .int .i64 rm] 57 (0, 0)))
 have B1 := Aside0.mk b1
 have I1 := Aside0.mk (hI.below b1)
 have M1 := Aside0.mk (hM.below b1)
 have HR := Aside0.mk hR
 have HI := Aside0.mk hi
 have HNM := Aside0.mk hn
 obtain ⟨qr, hqr⟩ := (rread_ev hR.rel hi st.count fl nm hn).rounds
 obtain ⟨qn, hqn⟩ := (now_ev hR.rel hi st.count st.down fl).rounds
 obtain ⟨qu, hqu⟩ := (used_ev hR.rel hi st.count st.down fl).rounds
 have HQR := Aside0.mk hqr
 have HQN := Aside0.mk hqn
 have HQU := Aside0.mk hqu
 have HWL := Aside0.mk hR.rel.len
 have HTS : Aside0 (totF st.now ≤ 9000000000000000000) := ⟨Nat.le_trans (hR.rel.gp.small hi) (by decide)⟩
 have HNL : Aside0 (st.now.length ≤ 1000) := ⟨Nat.le_trans hR.rel.gp.nowLen hi⟩
 clear hok hI hM hR hi hn hqr hqn hqu b1
 go_enter Try.func30, Try.ntmps30
 go_upto_region 1 with (fail)
 generalize W.alloc (.cells #[.slice A0 (filesL st.sure).length c0, .slice A1 Wt.length c1, .int .i64 st.count, .bool st.down, .slice A4 fl.length c4, .int .i64 rm] 57 (0, 0)) = w1 at X4 B1 I1 M1 ⊢
 have e4_0 := (blk_cell X4.out 0).trans rfl
 have e4_1 := (blk_cell X4.out 1).trans rfl
 have e4_2 := (blk_cell X4.out 2).trans rfl
 have e4_3 := (blk_cell X4.out 3).trans rfl
 have e4_4 := (blk_cell X4.out 4).trans rfl
 have e4_5 := (blk_cell X4.out 5).trans rfl
 have IQ : Aside0 (∀ w', Below w1.heap.size w1 w' → IsD w' d ok st) := ⟨fun w' hb => I1.out.below hb⟩
 have CQ : Aside0 (∀ w', Below w1.heap.size w1 w' → Kd.C k48 w' A0 (filesL st.sure).length (filesL st.sure) ∧ (filesL st.sure).length ≤ c0 ∧ Kd.C k86 w' A1 Wt.length Wt ∧ Wt.length ≤ c1 ∧ Kd.C k90 w' A4 fl.length fl ∧ fl.length ≤ c4) := ⟨fun w' hb => ⟨(Kd.V_reads' (M1.out.below hb).s).2.2, (Kd.V_reads' (M1.out.below hb).s).2.1, (Kd.V_reads' (M1.out.below hb).w).2.2, (Kd.V_reads' (M1.out.below hb).w).2.1, (Kd.V_reads' (M1.out.below hb).f).2.2, (Kd.V_reads' (M1.out.below hb).f).2.1⟩⟩
 have ID : Aside0 (∀ n, IsD (w1.drewN n) d ok st) := ⟨fun n => IQ.out _ (pw_below_drewN (Below.refl _ _) n)⟩
 have z1 : (st.down != st.down) = false := by simp
 have z2 : (st.count != st.count) = false := by simp
 have z3 : ((st.wait.length : Int) != (Wt.length : Int)) = false := by rw [HWL.out]; simp
 go_quiet (first | (go_at_call 35; exact Calls.quiet_of_same (down_calls (ID.out _))) | (go_at_call 13; exact Calls.quiet_of_same (changes_calls (ID.out _))) | (go_at_call 27; exact Calls.quiet_of_same (waits_calls (ID.out _))))
 clear z1 z2 z3 e4_0 e4_1 e4_2 e4_3 e4_4 e4_5
 have BQ : Aside0 (Below w1.heap.size w1 (w1.drewN nq)) := ⟨pw_below_drewN (Below.refl _ _) nq⟩
 generalize w1.drewN nq = w2 at BQ ⊢
 go_wp2_with (fail)
 refine (read_calls (IQ.out _ BQ.out) nm HNM.out).mono ?_
 rintro e w3 ⟨rfl, hb⟩
 have B3 := Aside0.mk (below_step BQ.out hb)
 have X3 := Aside0.mk (blk_below X4.out B3.out)
 clear hb BQ
 have e3_0 := (blk_cell X3.out 0).trans rfl
 have e3_1 := (blk_cell X3.out 1).trans rfl
 have e3_2 := (blk_cell X3.out 2).trans rfl
 have e3_3 := (blk_cell X3.out 3).trans rfl
 have e3_4 := (blk_cell X3.out 4).trans rfl
 have e3_5 := (blk_cell X3.out 5).trans rfl
 go_wp2_with (fail)
 refine (stowageref04_Disk_Read.calls qr A0 c0 (filesL st.sure) A1 c1 Wt st.count st.down A4 c4 fl rm nm _ _ w3 (CQ.out _ B3.out).1 (CQ.out _ B3.out).2.1 (CQ.out _ B3.out).2.2.1 (CQ.out _ B3.out).2.2.2.1 (CQ.out _ B3.out).2.2.2.2.1 (CQ.out _ B3.out).2.2.2.2.2 HQR.out).mono ?_
 rintro e w4 ⟨rfl, hb⟩
 have B4 := Aside0.mk (below_step B3.out hb)
 have X5 := Aside0.mk (blk_below X4.out B4.out)
 clear hb B3 X3 e3_0 e3_1 e3_2 e3_3 e3_4 e3_5
 have z1 : ((readS st nm).toList != (readS st nm).toList) = false := bne_self_eq_false _
 have z1' : (!((readS st nm).toList == (readS st nm).toList)) = false := by simp
 have z2 : (readE st nm != readE st nm) = false := by simp
 cases hd : st.down with
 | true =>
  have hus : usedS st = 0 := if_pos hd
  have HD := Aside0.mk hd
  rw [hd] at X5
  clear hd
  go_wp2_with (fail)
  refine (names_down (IQ.out _ B4.out) HD.out).mono ?_
  rintro e w5 ⟨rfl, hb⟩
  have B5 := Aside0.mk (below_step B4.out hb)
  have X6 := Aside0.mk (blk_below X5.out hb)
  clear hb
  have e6_0 := (blk_cell X6.out 0).trans rfl
  have e6_1 := (blk_cell X6.out 1).trans rfl
  have e6_2 := (blk_cell X6.out 2).trans rfl
  have e6_3 := (blk_cell X6.out 3).trans rfl
  have e6_4 := (blk_cell X6.out 4).trans rfl
  have e6_5 := (blk_cell X6.out 5).trans rfl
  go_wp2_with (fail)
  refine (used_calls (IQ.out _ B5.out) HTS.out).mono ?_
  rw [hus]
  clear hus
  rintro e w6 ⟨rfl, hb⟩
  have B6 := Aside0.mk (below_step B5.out hb)
  clear hb e6_0 e6_1 e6_2 e6_3 e6_4 e6_5
  go_wp2
  go_ret
  exact ⟨rfl, below_step B1.out B6.out⟩
 | false =>
  have hus : usedS st = (totF st.now : Int) := used_up hd
  have HD := Aside0.mk hd
  have HF : Aside0 (Fine st) := ⟨⟨hd, HR.out.rel.gp.nowRis, HR.out.rel.gp.nowNamed, Nat.le_trans HNL.out (by decide)⟩⟩
  have HUS := Aside0.mk hus
  rw [hd] at X5
  clear hd hus
  go_wp2_with (fail)
  refine (names_calls (IQ.out _ B4.out) HD.out HR.out.rel.gp.nowRis (by have := HNL.out; omega)).mono ?_
  rintro e w5 ⟨v, rfl, hR5, hb⟩
  obtain ⟨An, cn, rfl, hln, hCn⟩ := Kd.R_reads hR5
  have hnn : (namesF st.now).length = st.now.length := List.length_map ..
  rw [hnn] at hCn hln ⊢
  have CN := Aside0.mk hCn
  have B5 := Aside0.mk (below_step B4.out hb)
  have X6 := Aside0.mk (blk_below X5.out hb)
  clear hb hR5 hCn hln hnn B4 X5
  have e6_0 := (blk_cell X6.out 0).trans rfl
  have e6_1 := (blk_cell X6.out 1).trans rfl
  have e6_2 := (blk_cell X6.out 2).trans rfl
  have e6_3 := (blk_cell X6.out 3).trans rfl
  have e6_4 := (blk_cell X6.out 4).trans rfl
  have e6_5 := (blk_cell X6.out 5).trans rfl
  have HQN2 : Aside0 (stowageref04_Disk_Now.f qn (filesL st.sure) Wt st.count false fl rm = some (filesL st.now)) := ⟨by have h := HQN.out; rw [HD.out] at h; exact h⟩
  have HQU2 : Aside0 (stowageref04_Disk_Used.f qu (filesL st.sure) Wt st.count false fl rm = some ((totF st.now : Nat) : Int)) := ⟨by have h := HQU.out; rw [HD.out] at h; exact h⟩
  clear HQN HQU
  go_wp2_with (fail)
  refine (stowageref04_Disk_Now.calls qn (fun k => (¬ ok k ∧ (k ≠ q0 ∧ k ≠ q1)) ∧ k < W.heap.size) A0 c0 (filesL st.sure) A1 c1 Wt st.count false A4 c4 fl rm (filesL st.now) w5 (M1.out.below B5.out).s (CQ.out _ B5.out).2.2.1 (CQ.out _ B5.out).2.2.2.1 (CQ.out _ B5.out).2.2.2.2.1 (CQ.out _ B5.out).2.2.2.2.2 HQN2.out).mono ?_
  rintro e w7 ⟨v7, rfl, hV7, hb⟩
  obtain ⟨Al, clx, hv7, hll, hF7⟩ := hV7
  have CL := Aside0.mk (Kd.F_now hF7)
  rw [filesL_len] at hv7
  subst hv7
  have B7 := Aside0.mk (below_step B5.out hb)
  have X7 := Aside0.mk (blk_below X6.out hb)
  have CN7 := Aside0.mk (Kd.C_below CN.out hb)
  clear hll hF7 hb CN B5 X6 e6_0 e6_1 e6_2 e6_3 e6_4 e6_5
  go_upto_region 11 with (fail)
  have XH_0 := Aside0.mk (blk_drew X7.out)
  have BH_0 : Aside0 (Below w1.heap.size w1 w7.drew) := ⟨below_drew1 B7.out⟩
  have DH_0 : Aside0 (Below w7.heap.size w7 w7.drew) := ⟨below_drew1 (Below.refl _ _)⟩
  have z4 : ((st.now.length : Int) != (st.now.length : Int)) = false := by simp
  have z5 : (usedS st != (totF st.now : Int)) = false := by rw [HUS.out]; simp
  refine start_ (n := 12) (S := (fun w' => w'.cell? ⟨W.heap.size, 0, none⟩ = some (.slice A0 (filesL st.sure).length c0) ∧ w'.cell? ⟨W.heap.size, 1, none⟩ = some (.slice A1 Wt.length c1) ∧ w'.cell? ⟨W.heap.size, 2, none⟩ = some (.int .i64 st.count) ∧ w'.cell? ⟨W.heap.size, 3, none⟩ = some (.bool false) ∧ w'.cell? ⟨W.heap.size, 4, none⟩ = some (.slice A4 fl.length c4) ∧ w'.cell? ⟨W.heap.size, 5, none⟩ = some (.int .i64 rm))) (ds := []) #[false, false, false, false, false, false, false, false, false, false, false, false] (by kernel_rfl) rfl rfl ⟨(blk_cell XH_0.out 0).trans rfl, (blk_cell XH_0.out 1).trans rfl, (blk_cell XH_0.out 2).trans rfl, (blk_cell XH_0.out 3).trans rfl, (blk_cell XH_0.out 4).trans rfl, (blk_cell XH_0.out 5).trans rfl⟩ (fun hHeld => ?_)
  refine pure_ (i := 0) (N := some 70) (v := ?_) (a' := ?_) #[true, false, false, false, false, false, false, false, false, false, false, false] rfl rfl (by kernel_rfl) (fun _ _ _ h => h) (Or.inl ⟨by rfl, ?_⟩) ?_ ?_
  rotate_left
  ·intro w'
   go_simp
   with_reducible rfl
  rotate_left
  ·simp only [Act.put, List.setIfInBounds_toArray, List.set_cons_zero, List.set_cons_succ]
   rfl
  refine pure_ (i := 1) (N := some 71) (v := ?_) (a' := ?_) #[true, true, false, false, false, false, false, false, false, false, false, false] rfl rfl (by kernel_rfl) (fun _ _ _ h => h) (Or.inl ⟨by rfl, ?_⟩) ?_ ?_
  rotate_left
  ·intro w'
   go_simp
   with_reducible rfl
  rotate_left
  ·simp only [Act.put, List.setIfInBounds_toArray, List.set_cons_zero, List.set_cons_succ]
   rfl
  refine pure_ (i := 2) (N := some 72) (v := ?_) (a' := ?_) #[true, true, true, false, false, false, false, false, false, false, false, false] rfl rfl (by kernel_rfl) (fun _ _ _ h => h) (Or.inl ⟨by rfl, ?_⟩) ?_ ?_
  rotate_left
  ·intro w'
   go_simp
   with_reducible rfl
  rotate_left
  ·simp only [Act.put, List.setIfInBounds_toArray, List.set_cons_zero, List.set_cons_succ]
   rfl
  refine pure_ (i := 3) (N := some 73) (v := ?_) (a' := ?_) #[true, true, true, true, false, false, false, false, false, false, false, false] rfl rfl (by kernel_rfl) (fun _ _ _ h => h) (Or.inl ⟨by rfl, ?_⟩) ?_ ?_
  rotate_left
  ·intro w'
   go_simp
   with_reducible rfl
  rotate_left
  ·simp only [Act.put, List.setIfInBounds_toArray, List.set_cons_zero, List.set_cons_succ]
   rfl
  refine pure_ (i := 4) (N := some 74) (v := ?_) (a' := ?_) #[true, true, true, true, true, false, false, false, false, false, false, false] rfl rfl (by kernel_rfl) (fun _ _ _ h => h) (Or.inl ⟨by rfl, ?_⟩) ?_ ?_
  rotate_left
  ·intro w'
   go_simp
   with_reducible rfl
  rotate_left
  ·simp only [Act.put, List.setIfInBounds_toArray, List.set_cons_zero, List.set_cons_succ]
   rfl
  refine pure_ (i := 5) (N := some 75) (v := ?_) (a' := ?_) #[true, true, true, true, true, true, false, false, false, false, false, false] rfl rfl (by kernel_rfl) (fun _ _ _ h => h) (Or.inl ⟨by rfl, ?_⟩) ?_ ?_
  rotate_left
  ·intro w'
   go_simp
   with_reducible rfl
  rotate_left
  ·simp only [Act.put, List.setIfInBounds_toArray, List.set_cons_zero, List.set_cons_succ]
   rfl
  refine pure_ (i := 6) (N := some 76) (v := ?_) (a' := ?_) #[true, true, true, true, true, true, true, false, false, false, false, false] rfl rfl (by kernel_rfl) (fun _ _ _ h => h) (Or.inl ⟨by rfl, ?_⟩) ?_ ?_
  rotate_left
  ·intro w'
   go_simp
   with_reducible rfl
  rotate_left
  ·simp only [Act.put, List.setIfInBounds_toArray, List.set_cons_zero, List.set_cons_succ]
   rfl
  refine take_ (i := 8) (N := some 78) (v := ?_) (a' := ?_) #[true, true, true, true, true, true, true, false, true, false, false, false] rfl rfl (by kernel_rfl) (fun _ _ _ h => h) (Or.inl ⟨by rfl, ?_⟩) (by first | exact hHeld | assumption) ?_ ?_
  rotate_left
  ·rintro w' ⟨s0, s1, s2, s3, s4, s5⟩
   go_simp
   with_reducible rfl
  rotate_left
  ·simp only [Act.put, List.setIfInBounds_toArray, List.set_cons_zero, List.set_cons_succ]
   rfl
  refine one_ (i := 7) (N := some 77) #[true, true, true, true, true, true, true, true, true, false, false, false] rfl rfl (by kernel_rfl) (by decide) (fun K hK => ?_)
  refine call_ 22 #[.pointer (some ⟨d, 0, none⟩)] (by rfl) rfl (by first | (go_simp; done) | (go_simp; rfl)) ?_
  refine (used_calls (IQ.out _ BH_0.out) HTS.out).mono ?_
  rintro e wh1 ⟨rfl, hbh0⟩
  have XH_1 := Aside0.mk (blk_below XH_0.out hbh0)
  have BH_1 := Aside0.mk (below_step BH_0.out hbh0)
  have DH_1 := Aside0.mk (below_step DH_0.out hbh0)
  clear hbh0
  refine ⟨_, rfl, hK.out _ _ ⟨(blk_cell XH_1.out 0).trans rfl, (blk_cell XH_1.out 1).trans rfl, (blk_cell XH_1.out 2).trans rfl, (blk_cell XH_1.out 3).trans rfl, (blk_cell XH_1.out 4).trans rfl, (blk_cell XH_1.out 5).trans rfl⟩ (fun hHeld => ?_)⟩
  clear hK K
  refine norm_ (a' := ?_) ?_ ?_
  rotate_left
  ·show Act.put _ (some 77) _ = _
   simp only [Act.put, List.setIfInBounds_toArray, List.set_cons_zero, List.set_cons_succ]
   rfl
  refine one_ (i := 9) (N := some 79) #[true, true, true, true, true, true, true, true, true, true, false, false] rfl rfl (by kernel_rfl) (by decide) (fun K hK => ?_)
  refine call_ 50 #[.agg #[.slice A0 (filesL st.sure).length c0, .slice A1 Wt.length c1, .int .i64 st.count, .bool false, .slice A4 fl.length c4, .int .i64 rm]] (by rfl) rfl (by first | (go_simp; done) | (go_simp; rfl)) ?_
  refine (stowageref04_Disk_Used.calls qu A0 c0 (filesL st.sure) A1 c1 Wt st.count false A4 c4 fl rm (totF st.now : Int) wh1 (CQ.out _ BH_1.out).1 (CQ.out _ BH_1.out).2.1 (CQ.out _ BH_1.out).2.2.1 (CQ.out _ BH_1.out).2.2.2.1 (CQ.out _ BH_1.out).2.2.2.2.1 (CQ.out _ BH_1.out).2.2.2.2.2 HQU2.out).mono ?_
  rintro e wh2 ⟨rfl, hbh1⟩
  have XH_2 := Aside0.mk (blk_below XH_1.out hbh1)
  have BH_2 := Aside0.mk (below_step BH_1.out hbh1)
  have DH_2 := Aside0.mk (below_step DH_1.out hbh1)
  clear hbh1
  refine ⟨_, rfl, hK.out _ _ ⟨(blk_cell XH_2.out 0).trans rfl, (blk_cell XH_2.out 1).trans rfl, (blk_cell XH_2.out 2).trans rfl, (blk_cell XH_2.out 3).trans rfl, (blk_cell XH_2.out 4).trans rfl, (blk_cell XH_2.out 5).trans rfl⟩ (fun hHeld => ?_)⟩
  clear hK K
  refine norm_ (a' := ?_) ?_ ?_
  rotate_left
  ·show Act.put _ (some 79) _ = _
   simp only [Act.put, List.setIfInBounds_toArray, List.set_cons_zero, List.set_cons_succ]
   rfl
  refine pure_ (i := 10) (N := some 80) (v := ?_) (a' := ?_) #[true, true, true, true, true, true, true, true, true, true, true, false] rfl rfl (by kernel_rfl) (fun _ _ _ h => h) (Or.inl ⟨by rfl, ?_⟩) ?_ ?_
  rotate_left
  ·intro w'
   go_simp
   with_reducible rfl
  rotate_left
  ·simp only [Act.put, List.setIfInBounds_toArray, List.set_cons_zero, List.set_cons_succ]
   rfl
  refine pure_ (i := 11) (N := some 81) (v := ?_) (a' := ?_) #[true, true, true, true, true, true, true, true, true, true, true, true] rfl rfl (by kernel_rfl) (fun _ _ _ h => h) (Or.inl ⟨by rfl, ?_⟩) ?_ ?_
  rotate_left
  ·intro w'
   go_simp
   with_reducible rfl
  rotate_left
  ·simp only [Act.put, List.setIfInBounds_toArray, List.set_cons_zero, List.set_cons_succ]
   rfl
  refine done_ (by kernel_rfl) ?_
  clear hHeld
  clear z4 z5
  have BZ := Aside0.mk BH_2.out
  have BD := Aside0.mk DH_2.out
  clear BH_0 BH_1 BH_2 XH_0 XH_1 XH_2 B7 X7 DH_0 DH_1 DH_2
  obtain ⟨n, hn⟩ : ∃ n, n = st.now.length := ⟨_, rfl⟩
  have HNN := Aside0.mk hn
  have CNN : Aside0 (Kd.C Kd.string w7 An n (namesF st.now)) := ⟨hn ▸ CN7.out⟩
  have CLL : Aside0 (Kd.C k48 w7 Al n (filesL st.now)) := ⟨by have h := CL.out; rw [filesL_len] at h; rw [hn]; exact h⟩
  rw [← hn]
  clear hn CL CN7
  go_wp2_with (fail)
  go_loopg [13] (n + 1) (fun kq v13 w' => ∃ (j : Nat), v13 = .int .i64 (j : Int) ∧ Aside0 (j + kq = n + 1 ∧ j ≤ n) ∧ Aside0 (Below w1.heap.size w1 w') ∧ Aside0 (Below w7.heap.size w7 w'))
  case atStart => exact ⟨0, rfl, ⟨by omega, by omega⟩, BZ, BD⟩
  case round =>
   obtain ⟨j, rfl, HJ, HB, HD7⟩ := hrel
   cases gk with
   | zero => have := HJ.out; omega
   | succ k1 =>
    by_cases hj : j < n
    ·have hlt : ((j : Int) < (n : Int)) = True := eq_true (by omega)
     have hj2 : j < st.now.length := by have := HNN.out; omega
     obtain ⟨p, hp⟩ : ∃ p, st.now[j]? = some p := ⟨_, List.getElem?_eq_getElem hj2⟩
     have hmem : p ∈ st.now := List.mem_of_getElem? hp
     have hrd : rdOf ByteArray.empty (namesF st.now) (j : Int) = p.1 := by
      unfold rdOf namesF
      rw [Int.toNat_natCast, List.getD_eq_getElem?_getD, List.getElem?_map, hp]
      rfl
     have hrf := rd_files hp
     have HRE := Aside0.mk (HF.out.read hmem)
     have HSZ := Aside0.mk (nameS_size (HF.out.named p hmem))
     have HJJ := Aside0.mk hj
     obtain ⟨ad, rfl, h0, h1⟩ := at_T48 (Kd.C_below CLL.out HD7.out) (j : Int) (by omega) (by omega)
     rw [Int.toNat_natCast, hrf] at h0 h1
     clear hmem hj2 hj
     go_wp2_with (fail)
     refine (read_calls (IQ.out _ HB.out) p.1 (Nat.le_trans HSZ.out (by decide))).mono ?_
     rintro e w8 ⟨rfl, hb⟩
     have B8 := Aside0.mk (below_step HB.out hb)
     have D8 := Aside0.mk (below_step HD7.out hb)
     obtain ⟨ad', e', g0, g1⟩ := at_T48 (Kd.C_below CLL.out D8.out) (j : Int) (by have := HJJ.out; omega) (by have := HJJ.out; omega)
     injection e' with e'
     subst e'
     rw [Int.toNat_natCast, hrf] at g0 g1
     obtain ⟨bd, e, h2⟩ := (Kd.reads_of_C (enc := Value.string) (d := ByteArray.empty) (Kd.C_below CNN.out D8.out)).at_ (j : Int) (by have := HJJ.out; omega) (by have := HJJ.out; omega)
     rw [Int.toNat_natCast, hrd] at h2
     subst e
     rw [HRE.out.1, HRE.out.2]
     have y1 : (p.1.toList != p.1.toList) = false := bne_self_eq_false _
     have y2 : (p.2.toList != p.2.toList) = false := bne_self_eq_false _
     have y3 : (!(p.1.toList == p.1.toList)) = false := by simp
     have y4 : (!(p.2.toList == p.2.toList)) = false := by simp
     have i1 : (j : Int) < (n : Int) := by have := HJJ.out; omega
     have i2 : (0 : Int) ≤ (j : Int) := by omega
     have hj1 : wrap64 ((j : Int) + 1) = ((j + 1 : Nat) : Int) := w1n j (by have := HJJ.out; have := HNN.out; have := HNL.out; omega)
     clear h0 h1 hrd hrf hb hp
     go_upto_region 17 with (fail)
     go_quiet (fail)
     have B9 : Aside0 (Below w1.heap.size w1 (w8.drewN nq)) := ⟨pw_below_drewN B8.out nq⟩
     have D9 : Aside0 (Below w7.heap.size w7 (w8.drewN nq)) := ⟨pw_below_drewN D8.out nq⟩
     generalize w8.drewN nq = w9 at B9 D9 ⊢
     clear g0 g1 h2 y1 y2 y3 y4 i1 i2
     go_wp2
     go_roundg k1
     case measure => have := HJ.out; omega
     case rel => exact ⟨j + 1, by rw [hj1], ⟨by have := HJ.out; omega, by have := HJJ.out; omega⟩, B9, D9⟩
    ·have hlt : ((j : Int) < (n : Int)) = False := eq_false (by omega)
     go_wp2
     go_ret
     exact ⟨rfl, below_step B1.out HB.out⟩
end Go.Proofs.Ytabngibognlmoaa.Q
