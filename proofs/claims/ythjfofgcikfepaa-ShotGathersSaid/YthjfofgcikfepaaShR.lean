/- A snapshot as an argument; one that is the same. -/
import Derived.Outline
import Derived.StillTailTactics
import Derived.Deep.AppendLies
import Derived.Test.YthjfofgcikfepaaShA
import Derived.Test.YthjfofgcikfepaaPs
namespace Go.Proofs.Ythjfofgcikfepaa.Q
open Go.Maps Go.WideShapes Go.WideMaps Go.RowKit Go.Proofs.YthjfofgcikfepaaW.PrintWords Go.Proofs.YthjfofgcikfepaaW.PrintLast Go.Proofs.YthjfofgcikfepaaW.PrintMore
set_option linter.unusedVariables false
set_option linter.unusedSimpArgs false
set_option maxHeartbeats 10000000
set_option maxRecDepth 100000
/-! a snapshot as an argument -/
structure S24 where
  f0 : Int
  f1 : Int
  f2 : List Int
  f3 : ByteArray
def k24 : Kd S24 := Kd.iso (Kd.pair (Kd.int .i64) (Kd.pair (Kd.int .i64) (Kd.pair (Kd.slice 3 (Kd.int .i64)) Kd.string))) (fun x : S24 => (x.f0, x.f1, x.f2, x.f3))
theorem k24_open {w : World} {x : S24} {cs : List Value} (h : k24.K w x cs) : ∃ A c, cs = [.int .i64 x.f0, .int .i64 x.f1, .slice A x.f2.length c, .string x.f3] ∧ x.f2.length ≤ c ∧ Kd.C (Kd.int .i64) w A x.f2.length x.f2 := by
  obtain ⟨_, _, rfl, rfl, ⟨_, _, rfl, rfl, ⟨_, _, rfl, ⟨A, c, rfl, hl, hC⟩, rfl⟩⟩⟩ := h
  exact ⟨A, c, rfl, hl, hC⟩
theorem k24_agg {w : World} {x : S24} {cs : Array Value} (h : k24.K w x cs.toList) : ∃ A c, cs = #[.int .i64 x.f0, .int .i64 x.f1, .slice A x.f2.length c, .string x.f3] ∧ x.f2.length ≤ c ∧ Kd.C (Kd.int .i64) w A x.f2.length x.f2 := by
  obtain ⟨A, c, e, hl, hC⟩ := k24_open h
  exact ⟨A, c, by cases cs; simp at e; rw [e], hl, hC⟩
/-! one snapshot that is the same as another -/
theorem toList_inj {a b : ByteArray} (h : a.toList = b.toList) : a = b := ba_inj (by rw [← ByteArray.toList_eq, ← ByteArray.toList_eq, h])
def sameS (a b : Int) (ms : List Int) (d : ByteArray) (a' b' : Int) (ms' : List Int) (d' : ByteArray) : Bool := decide (a = a' ∧ b = b' ∧ d = d' ∧ ms = ms')
theorem same_go (a b : Int) (ms : List Int) (d : ByteArray) (a' b' : Int) (ms' : List Int) (d' : ByteArray) (hl : ms.length = ms'.length) (hb : ms.length ≤ 1000000000000000000) : ∀ (n i : Nat), i + n = ms.length →
    Ev (fun k => stowageref07_Same.l0 k (i : Int) a b ms d a' b' ms' d') (decide (ms.drop i = ms'.drop i))
  | 0, i, h => by
    rw [List.drop_of_length_le (by omega), List.drop_of_length_le (by omega)]
    exact Ev.step (f := fun _ => some true) (fun k => by rw [stowageref07_Same.l0, if_neg (by omega)]) (Ev.now _)
  | n + 1, i, h => by
    have h1 : i < ms.length := by omega
    have h2 : i < ms'.length := by omega
    have hG := same_go a b ms d a' b' ms' d' hl hb n (i + 1) (by omega)
    have r1 : ∀ k, stowageref07_Same.l0 (k + 1) (i : Int) a b ms d a' b' ms' d' = (if ms[i] = ms'[i] then stowageref07_Same.l0 k ((i + 1 : Nat) : Int) a b ms d a' b' ms' d' else some false) := fun k => by
      rw [stowageref07_Same.l0, if_pos (by omega), if_pos (by omega), if_pos (by omega), rdI ms i h1, rdI ms' i h2, w1 i (by omega)]
    refine Ev.step r1 ?_
    rw [List.drop_eq_getElem_cons h1, List.drop_eq_getElem_cons h2]
    by_cases e : ms[i] = ms'[i]
    · refine Ev.congr (fun k => if_pos e) ?_
      have : decide (ms[i] :: ms.drop (i + 1) = ms'[i] :: ms'.drop (i + 1)) = decide (ms.drop (i + 1) = ms'.drop (i + 1)) := by
        rw [e]; exact decide_eq_decide.2 ⟨fun g => (List.cons.inj g).2, fun g => congrArg _ g⟩
      rw [this]
      exact hG
    · have : decide (ms[i] :: ms.drop (i + 1) = ms'[i] :: ms'.drop (i + 1)) = false := by
        rw [decide_eq_false_iff_not]; intro g; injection g with g1 g2; exact e g1
      rw [this]
      exact Ev.congr (fun k => if_neg e) (Ev.now _)
theorem same_ev (a b : Int) (ms : List Int) (d : ByteArray) (a' b' : Int) (ms' : List Int) (d' : ByteArray) (hb : ms.length ≤ 1000000000000000000) :
    Ev (fun k => stowageref07_Same.f k a b ms d a' b' ms' d') (sameS a b ms d a' b' ms' d') := by
  have bad : sameS a b ms d a' b' ms' d' = false → Ev (fun k => stowageref07_Same.j0 k true a b ms d a' b' ms' d') (sameS a b ms d a' b' ms' d') := fun h => by
    rw [h]
    exact Ev.step (f := fun _ => some false) (fun k => by rw [stowageref07_Same.j0, if_pos rfl]) (Ev.now _)
  have no : ∀ {p : Prop}, (a = a' ∧ b = b' ∧ d = d' ∧ ms = ms' → p) → ¬ p → sameS a b ms d a' b' ms' d' = false := fun h g => decide_eq_false (fun e => g (h e))
  unfold stowageref07_Same.f
  refine Ev.ite (fun h1 => Ev.ite (fun h2 => Ev.ite (fun h3 => ?_) (fun h => bad (no (fun e => by rw [e.2.2.1]) h))) (fun h => bad (no (fun e => e.2.1) h))) (fun h => bad (no (fun e => e.1) h))
  by_cases h4 : ms.length = ms'.length
  · have e : ((ms.length : Int) != (ms'.length : Int)) = false := by rw [h4]; simp
    rw [e]
    refine Ev.step (f := fun k => stowageref07_Same.l0 k ((0 : Nat) : Int) a b ms d a' b' ms' d') (fun k => by rw [stowageref07_Same.j0, if_neg (by simp)]; rfl) ?_
    have hG := same_go a b ms d a' b' ms' d' h4 hb ms.length 0 (by omega)
    have : sameS a b ms d a' b' ms' d' = decide (ms.drop 0 = ms'.drop 0) := by
      unfold sameS
      rw [List.drop_zero, List.drop_zero, h1, h2, toList_inj h3]
      simp
    rw [this]
    exact hG
  · have e : ((ms.length : Int) != (ms'.length : Int)) = true := by rw [bne_iff_ne]; omega
    rw [e]
    exact bad (no (fun e => by rw [e.2.2.2]) h4)
theorem sameS_refl (a b : Int) (ms : List Int) (d : ByteArray) : sameS a b ms d a b ms d = true := decide_eq_true ⟨rfl, rfl, rfl, rfl⟩
/-! Ref -/
theorem alloc_size (w : World) (o : Obj) : (w.alloc o).heap.size = w.heap.size + 1 := Array.size_push (xs := w.heap) o
theorem ref_calls (a b : Int) (A : Option Addr) (n c : Nat) (t : ByteArray) (w : World) : Calls Try.prog 13 #[.agg #[.int .i64 a, .int .i64 b, .slice A n c, .string t]] w fun e w' => e = .returned (.agg #[.int .i64 a, .int .i64 b, .slice A n c, .string t]) ∧ Below w.heap.size w w' := by
  have hu := Try.underlying24
  have hu2 := Try.underlying30
  have HX := Aside0.mk (heap_alloc_new w (.cells #[.int .i64 a, .int .i64 b, .slice A n c, .string t] 24 (0, 0)))
  have b1 : Below w.heap.size w (w.alloc (.cells #[.int .i64 a, .int .i64 b, .slice A n c, .string t] 24 (0, 0))) := below_alloc (Below.refl _ _) _
  obtain ⟨w1, hw1⟩ : ∃ w1, w1 = w.alloc (.cells #[.int .i64 a, .int .i64 b, .slice A n c, .string t] 24 (0, 0)) := ⟨_, rfl⟩
  rw [← hw1] at HX b1
  have b2 : Below w1.heap.size w1 (w1.alloc (.cells #[.int .i64 0, .int .i64 0, .slice none 0 0, .string ⟨#[]⟩] 30 (0, 0))) := below_alloc (Below.refl _ _) _
  have X2 := Aside0.mk (blk_below HX.out b2)
  have HY := Aside0.mk (heap_alloc_new w1 (.cells #[.int .i64 0, .int .i64 0, .slice none 0 0, .string ⟨#[]⟩] 30 (0, 0)))
  have B2 := Aside0.mk (b1.trans (b2.mono b1.size))
  have S1 : Aside0 (w.heap.size ≤ w1.heap.size) := ⟨b1.size⟩
  have e0 := (blk_cell X2.out 0).trans rfl
  have e1 := (blk_cell X2.out 1).trans rfl
  have e2 := (blk_cell X2.out 2).trans rfl
  have e3 := (blk_cell X2.out 3).trans rfl
  have g0 := (blk_cell HY.out 0).trans rfl
  have g1 := (blk_cell HY.out 1).trans rfl
  have g2 := (blk_cell HY.out 2).trans rfl
  have g3 := (blk_cell HY.out 3).trans rfl
  clear b1 b2 HX
  subst hw1
  go_enter Try.func13, Try.ntmps13
  go_wp2
  refine bodyPost_ret (results_cell_row rfl _ _ (w.heap.size + 1) 30 #[.int .i64 a, .int .i64 b, .slice A n c, .string t] (0, 0) _ rfl (by rw [← alloc_size w (.cells #[.int .i64 a, .int .i64 b, .slice A n c, .string t] 24 (0, 0))]; exact heap_alloc_new _ _) rfl rfl rfl) rfl ?_
  exact ⟨rfl, below_alloc (below_alloc (Below.refl _ _) _) _⟩
end Go.Proofs.Ythjfofgcikfepaa.Q
