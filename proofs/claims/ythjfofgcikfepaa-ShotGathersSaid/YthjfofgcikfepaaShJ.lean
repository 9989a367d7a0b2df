/- Gathering: the document's answer. -/
import Derived.Outline
import Derived.StillTailTactics
import Derived.Deep.AppendLies
import Derived.Test.YthjfofgcikfepaaShG
import Derived.Test.YthjfofgcikfepaaShE
namespace Go.Proofs.Ythjfofgcikfepaa.Q
open Go.Maps Go.WideShapes Go.WideMaps Go.RowKit Go.Proofs.YthjfofgcikfepaaW.PrintWords Go.Proofs.YthjfofgcikfepaaW.PrintLast Go.Proofs.YthjfofgcikfepaaW.PrintMore
set_option linter.unusedVariables false
set_option linter.unusedSimpArgs false
set_option maxHeartbeats 10000000
set_option maxRecDepth 100000
theorem KG.low {g : Nat} {w w' : World} (h : KG g w w') (hg : g < w.heap.size) : Below g w w' := ⟨h.os, h.tape, h.output, h.size, fun k hk => h.block k (by omega) (by omega) (fun e => by omega)⟩
theorem IsG.lt {w : World} {g : Nat} {b : Bool} {i t : Int} {T : ByteArray} (h : IsG w g b i t T) : g < w.heap.size := by
  obtain ⟨_, v, hg, _⟩ := h
  exact blk_lt hg
theorem IsG.below {w w' : World} {g : Nat} {b : Bool} {i t : Int} {T : ByteArray} (h : IsG w g b i t T) (hb : Below w.heap.size w w') : IsG w' g b i t T := by
  obtain ⟨h1, v, hg, ho⟩ := h
  exact ⟨h1, v, blk_below hg hb, pw_own_below ho hb⟩
theorem newg_calls (w : World) : Calls Try.prog 32 #[] w fun e w' => ∃ g, e = .returned (.pointer (some ⟨g, 0, none⟩)) ∧ IsG w' g false 0 0 ⟨#[]⟩ ∧ w.heap.size ≤ g ∧ Below w.heap.size w w' := by
  have hu := Try.underlying113
  go_enter Try.func32, Try.ntmps32
  go_wp2
  go_ret
  exact ⟨w.heap.size, rfl, ⟨Nat.zero_le _, _, heap_alloc_new w _, own_nil _ _ _ _⟩, Nat.le_refl _, below_alloc (Below.refl _ _) _⟩
theorem decS_len (t : ByteArray) : (decS 7 t).2.2.1.length ≤ 1000000000000000000 := by
  rcases dec_cases 7 t with h | ⟨a, b, ms, d, h, h0⟩
  · rw [h]; exact Nat.zero_le _
  · rw [h]; exact Nat.le_trans (fineS h0).l1 (by decide)
theorem IsG.far {w : World} {g q : Nat} {b : Bool} {i t : Int} {T : ByteArray} (h : IsG w g b i t T) {cs : Array Value} {ty : TypeId} (hq : w.heap[q]? = some (.cells cs ty (0, 0))) (h1 : ty ≠ 113) (h2 : ty ≠ 5) (v0 v1 v2 v3 : Value) :
    IsG ((((w.setCell ⟨q, 0, none⟩ v0).setCell ⟨q, 1, none⟩ v1).setCell ⟨q, 2, none⟩ v2).setCell ⟨q, 3, none⟩ v3) g b i t T := by
  obtain ⟨hT, v, hg, ho⟩ := h
  refine ⟨hT, v, (far4 _ _ _ _ _ _ g ?_).trans hg, own_heap ho (fun k hk => far4 _ _ _ _ _ _ k ?_)⟩
  · rintro rfl
    rw [hg] at hq
    injection hq with hq
    injection hq with _ e _
    exact h1 e.symm
  · rintro rfl
    obtain ⟨cs', hc⟩ := own_typed ho k hk
    rw [hc] at hq
    injection hq with hq
    injection hq with _ e _
    exact h2 e.symm
theorem take_nil (w : World) (a b c : Int) (l : Bool) (d : ByteArray) : Calls Try.prog 33 #[.pointer none, .agg #[.int .i64 a, .int .i64 b, .int .i64 c, .bool l, .string d]] w fun e w' => e = .returned (.tuple #[.agg #[.int .i64 0, .int .i64 0, .slice none 0 0, .string ⟨#[]⟩], .bool false, .int .i64 0]) ∧ Below w.heap.size w w' := by
  have hu := Try.underlying24
  have hu3 := Try.underlying65
  obtain ⟨w1, hw1⟩ : ∃ w1, w1 = w.alloc (.cells #[.int .i64 a, .int .i64 b, .int .i64 c, .bool l, .string d] 65 (0, 0)) := ⟨_, rfl⟩
  obtain ⟨wA, hwA⟩ : ∃ wA, wA = w1.alloc (.cells #[.int .i64 0, .int .i64 0, .slice none 0 0, .string ⟨#[]⟩] 24 (0, 0)) := ⟨_, rfl⟩
  have b1 : Below w.heap.size w w1 := by rw [hw1]; exact below_alloc (Below.refl _ _) _
  have b2 : Below w1.heap.size w1 wA := by rw [hwA]; exact below_alloc (Below.refl _ _) _
  have hs1 : w1.heap.size = w.heap.size + 1 := by rw [hw1]; exact alloc_size _ _
  have XS : Aside0 (wA.heap[w.heap.size + 1]? = some (.cells #[.int .i64 0, .int .i64 0, .slice none 0 0, .string ⟨#[]⟩] 24 (0, 0))) := ⟨by
    rw [← hs1, hwA]; exact heap_alloc_new _ _⟩
  have BA := Aside0.mk (below_step b1 b2)
  clear b1 b2 hs1
  go_enter Try.func33, Try.ntmps33
  go_upto_region 1 with (fail)
  rw [← hw1, ← hwA]
  clear hw1 hwA
  have eXS_0 := (blk_cell XS.out 0).trans rfl
  have eXS_1 := (blk_cell XS.out 1).trans rfl
  have eXS_2 := (blk_cell XS.out 2).trans rfl
  have eXS_3 := (blk_cell XS.out 3).trans rfl
  have fXS_0 := blk_frozen XS.out 0
  have fXS_1 := blk_frozen XS.out 1
  have fXS_2 := blk_frozen XS.out 2
  have fXS_3 := blk_frozen XS.out 3
  go_wp2
  refine bodyPost_ret (results_ctt rfl _ _ (w.heap.size + 1) 24 #[.int .i64 0, .int .i64 0, .slice none 0 0, .string ⟨#[]⟩] (0, 0) _ rfl (blk4 (XS.out) _ _ _ _) rfl rfl rfl) rfl ?_
  exact ⟨rfl, (((BA.out.setCell (by show w.heap.size ≤ w.heap.size + 1; omega) _).setCell (by show w.heap.size ≤ w.heap.size + 1; omega) _).setCell (by show w.heap.size ≤ w.heap.size + 1; omega) _).setCell (by show w.heap.size ≤ w.heap.size + 1; omega) _⟩
theorem takeT_len (i t : Int) (T : ByteArray) (c : S65) : (takeT i t T c).2.1.2.2.1.length ≤ 1000000000000000000 := by
  unfold takeT zR
  dsimp only
  split
  · exact Nat.zero_le _
  split
  · exact Nat.zero_le _
  split
  · exact Nat.zero_le _
  · exact decS_len _
theorem takeK_len (b : Bool) (i t : Int) (T : ByteArray) (c : S65) : (takeK b i t T c).2.1.2.2.1.length ≤ 1000000000000000000 := by
  unfold takeK
  split
  · exact takeT_len _ _ _ _
  split
  · exact Nat.zero_le _
  split
  · exact Nat.zero_le _
  · exact takeT_len _ _ _ _
/-! the reference's Take -/
theorem below_f4 {base : Nat} {w0 w : World} {g : Nat} (h : Below base w0 w) (hg : base ≤ g) (v0 v1 v2 v3 : Value) : Below base w0 ((((w.setCell ⟨g, 0, none⟩ v0).setCell ⟨g, 1, none⟩ v1).setCell ⟨g, 2, none⟩ v2).setCell ⟨g, 3, none⟩ v3) :=
  (((h.setCell (p := ⟨g, 0, none⟩) hg v0).setCell (p := ⟨g, 1, none⟩) hg v1).setCell (p := ⟨g, 2, none⟩) hg v2).setCell (p := ⟨g, 3, none⟩) hg v3
theorem held4 {w : World} {g : Nat} {t : TypeId} {c0 c1 c2 c3 : Value} (h : w.heap[g]? = some (.cells #[c0, c1, c2, c3] t (0, 0))) : w.cell? ⟨g, 0, none⟩ = some c0 ∧ w.cell? ⟨g, 1, none⟩ = some c1 ∧ w.cell? ⟨g, 2, none⟩ = some c2 ∧ w.cell? ⟨g, 3, none⟩ = some c3 :=
  ⟨(blk_cell h 0).trans rfl, (blk_cell h 1).trans rfl, (blk_cell h 2).trans rfl, (blk_cell h 3).trans rfl⟩
/-- what is done behind the first question -/
def takeK2 (b : Bool) (i t : Int) (T : ByteArray) (c : S65) : (Bool × Int × Int × ByteArray) × ((Int × Int × List Int × ByteArray) × Bool × Int) :=
  if b = false ∨ c.f0 ≠ i ∨ c.f1 ≠ t then ((b, i, t, T), zR 0)
  else if c.f2 ≠ (T.size : Int) then ((b, i, t, T), zR (T.size : Int))
  else takeT i t T c
theorem takeK_a {b : Bool} {i t : Int} {T : ByteArray} {c : S65} (h : c.f2 = 0) : takeK b i t T c = takeK2 true c.f0 c.f1 ⟨#[]⟩ c := by
  unfold takeK takeK2
  rw [if_pos h, if_neg (by simp), if_neg (by rw [h]; exact fun x => x rfl)]
theorem takeK_b {b : Bool} {i t : Int} {T : ByteArray} {c : S65} (h : ¬ c.f2 = 0) : takeK b i t T c = takeK2 b i t T c := by
  unfold takeK takeK2
  rw [if_neg h]
theorem rtake_calls {w : World} {b : Bool} {i t : Int} {T : ByteArray} (hT : T.size ≤ 262144) (c : S65) (hcd : c.f4.size ≤ 140737488351232) :
    Calls Try.prog 34 #[.agg #[.bool b, .int .i64 i, .int .i64 t, .string T], .agg #[.int .i64 c.f0, .int .i64 c.f1, .int .i64 c.f2, .bool c.f3, .string c.f4]] w fun e w' => ∃ v, e = .returned (.tuple #[.agg #[.bool (takeK b i t T c).1.1, .int .i64 (takeK b i t T c).1.2.1, .int .i64 (takeK b i t T c).1.2.2.1, .string (takeK b i t T c).1.2.2.2], .agg #[.int .i64 (takeK b i t T c).2.1.1, .int .i64 (takeK b i t T c).2.1.2.1, v, .string (takeK b i t T c).2.1.2.2.2], .bool (takeK b i t T c).2.2.1, .int .i64 (takeK b i t T c).2.2.2]) ∧ Kd.R (Kd.int .i64) 3 w' w.heap.size (fun _ => True) v (takeK b i t T c).2.1.2.2.1 ∧ Below w.heap.size w w' := by
  have hu := Try.underlying30
  have hu2 := Try.underlying70
  have hu3 := Try.underlying64
  obtain ⟨w1, hw1⟩ : ∃ w1, w1 = w.alloc (.cells #[.bool b, .int .i64 i, .int .i64 t, .string T] 70 (0, 0)) := ⟨_, rfl⟩
  obtain ⟨w2, hw2⟩ : ∃ w2, w2 = w1.alloc (.cells #[.int .i64 c.f0, .int .i64 c.f1, .int .i64 c.f2, .bool c.f3, .string c.f4] 64 (0, 0)) := ⟨_, rfl⟩
  obtain ⟨w3, hw3⟩ : ∃ w3, w3 = w2.alloc (.cells #[.bool false, .int .i64 0, .int .i64 0, .string ⟨#[]⟩] 70 (0, 0)) := ⟨_, rfl⟩
  obtain ⟨wA, hwA⟩ : ∃ wA, wA = w3.alloc (.cells #[.int .i64 0, .int .i64 0, .slice none 0 0, .string ⟨#[]⟩] 30 (0, 0)) := ⟨_, rfl⟩
  have b1 : Below w.heap.size w w1 := by rw [hw1]; exact below_alloc (Below.refl _ _) _
  have b2 : Below w1.heap.size w1 w2 := by rw [hw2]; exact below_alloc (Below.refl _ _) _
  have b3 : Below w2.heap.size w2 w3 := by rw [hw3]; exact below_alloc (Below.refl _ _) _
  have b4 : Below w3.heap.size w3 wA := by rw [hwA]; exact below_alloc (Below.refl _ _) _
  have hs1 : w1.heap.size = w.heap.size + 1 := by rw [hw1]; exact alloc_size _ _
  have hs2 : w2.heap.size = w.heap.size + 2 := by rw [hw2, alloc_size, hs1]
  have hs3 : w3.heap.size = w.heap.size + 3 := by rw [hw3, alloc_size, hs2]
  have hs4 : wA.heap.size = w.heap.size + 4 := by rw [hwA, alloc_size, hs3]
  have XG : Aside0 (wA.heap[w.heap.size]? = some (.cells #[.bool b, .int .i64 i, .int .i64 t, .string T] 70 (0, 0))) := ⟨((b4.block _ (by omega)).trans ((b3.block _ (by omega)).trans (b2.block _ (by omega)))).trans (by rw [hw1]; exact heap_alloc_new _ _)⟩
  have XC : Aside0 (wA.heap[w.heap.size + 1]? = some (.cells #[.int .i64 c.f0, .int .i64 c.f1, .int .i64 c.f2, .bool c.f3, .string c.f4] 64 (0, 0))) := ⟨((b4.block _ (by omega)).trans (b3.block _ (by omega))).trans (by rw [← hs1, hw2]; exact heap_alloc_new _ _)⟩
  have XZ : Aside0 (wA.heap[w.heap.size + 2]? = some (.cells #[.bool false, .int .i64 0, .int .i64 0, .string ⟨#[]⟩] 70 (0, 0))) := ⟨(b4.block _ (by omega)).trans (by rw [← hs2, hw3]; exact heap_alloc_new _ _)⟩
  have XU : Aside0 (wA.heap[w.heap.size + 3]? = some (.cells #[.int .i64 0, .int .i64 0, .slice none 0 0, .string ⟨#[]⟩] 30 (0, 0))) := ⟨by rw [← hs3, hwA]; exact heap_alloc_new _ _⟩
  have HB := Aside0.mk (below_step (below_step (below_step b1 b2) b3) b4)
  have SZ := Aside0.mk hs4
  have HT := Aside0.mk hT
  have HCD := Aside0.mk hcd
  clear b1 b2 b3 b4 hs1 hs2 hs3 hs4 hT hcd
  go_enter Try.func34, Try.ntmps34
  go_upto_if 12 with (fail)
  (try simp only [Act.put, List.setIfInBounds_toArray, List.set_cons_zero, List.set_cons_succ])
  rw [← hw1, ← hw2, ← hw3, ← hwA]
  clear hw1 hw2 hw3 hwA
  go_cut [] (fun wc => ∃ (bb : Bool) (ii tt : Int) (TT : ByteArray), Aside0 (takeK b i t T c = takeK2 bb ii tt TT c) ∧ Aside0 (TT.size ≤ 262144) ∧ Aside0 (wc.heap[w.heap.size]? = some (.cells #[.bool bb, .int .i64 ii, .int .i64 tt, .string TT] 70 (0, 0))) ∧ Aside0 (wc.heap[w.heap.size + 1]? = some (.cells #[.int .i64 c.f0, .int .i64 c.f1, .int .i64 c.f2, .bool c.f3, .string c.f4] 64 (0, 0))) ∧ Aside0 (wc.heap[w.heap.size + 2]? = some (.cells #[.bool false, .int .i64 0, .int .i64 0, .string ⟨#[]⟩] 70 (0, 0))) ∧ Aside0 (wc.heap[w.heap.size + 3]? = some (.cells #[.int .i64 0, .int .i64 0, .slice none 0 0, .string ⟨#[]⟩] 30 (0, 0))) ∧ Aside0 (Below w.heap.size w wc) ∧ Aside0 (wc.heap.size = w.heap.size + 4))
  case first =>
    have eXC_0 := (blk_cell XC.out 0).trans rfl
    have eXC_1 := (blk_cell XC.out 1).trans rfl
    have eXC_2 := (blk_cell XC.out 2).trans rfl
    have eXC_3 := (blk_cell XC.out 3).trans rfl
    have eXC_4 := (blk_cell XC.out 4).trans rfl
    have eXG_0 := (blk_cell XG.out 0).trans rfl
    have eXG_1 := (blk_cell XG.out 1).trans rfl
    have eXG_2 := (blk_cell XG.out 2).trans rfl
    have eXG_3 := (blk_cell XG.out 3).trans rfl
    have fXG_0 := blk_frozen XG.out 0
    have fXG_1 := blk_frozen XG.out 1
    have fXG_2 := blk_frozen XG.out 2
    have fXG_3 := blk_frozen XG.out 3
    by_cases a0 : c.f2 = 0
    · have z0 : (c.f2 == 0) = true := beq_iff_eq.mpr a0
      have TK := Aside0.mk (takeK_a (b := b) (i := i) (t := t) (T := T) a0)
      clear a0
      go_wp2
      go_meet
      case rel => exact ⟨true, c.f0, c.f1, ⟨#[]⟩, TK, ⟨Nat.zero_le _⟩, ⟨blk4 XG.out _ _ _ _⟩, ⟨(far4 _ _ _ _ _ _ _ (by omega)).trans XC.out⟩, ⟨(far4 _ _ _ _ _ _ _ (by omega)).trans XZ.out⟩, ⟨(far4 _ _ _ _ _ _ _ (by omega)).trans XU.out⟩, ⟨below_f4 HB.out (Nat.le_refl _) _ _ _ _⟩, ⟨by simp only [World.setCell, Array.size_modify]; exact SZ.out⟩⟩
    · have z0 : (c.f2 == 0) = false := beq_eq_false_iff_ne.mpr a0
      have TK := Aside0.mk (takeK_b (b := b) (i := i) (t := t) (T := T) a0)
      clear a0
      go_wp2
      go_meet
      case rel => exact ⟨b, i, t, T, TK, HT, XG, XC, XZ, XU, HB, SZ⟩
  case rest =>
    clear XG XC XZ XU HB SZ HT
    obtain ⟨bb, ii, tt, TT, TK, HT, XG, XC, XZ, XU, HB, SZ⟩ := hcut
    have eXC_0 := (blk_cell XC.out 0).trans rfl
    have eXC_1 := (blk_cell XC.out 1).trans rfl
    have eXC_2 := (blk_cell XC.out 2).trans rfl
    have eXC_3 := (blk_cell XC.out 3).trans rfl
    have eXC_4 := (blk_cell XC.out 4).trans rfl
    have eXG_0 := (blk_cell XG.out 0).trans rfl
    have eXG_1 := (blk_cell XG.out 1).trans rfl
    have eXG_2 := (blk_cell XG.out 2).trans rfl
    have eXG_3 := (blk_cell XG.out 3).trans rfl
    have fXG_0 := blk_frozen XG.out 0
    have fXG_1 := blk_frozen XG.out 1
    have fXG_2 := blk_frozen XG.out 2
    have fXG_3 := blk_frozen XG.out 3
    have XZ' := XZ
    cases bb with
    | false =>
      have TK2 : Aside0 (takeK b i t T c = ((false, ii, tt, TT), zR 0)) := ⟨TK.out.trans (if_pos (Or.inl rfl))⟩
      clear TK
      have eXZ_0 := (blk_cell XZ.out 0).trans rfl
      have eXZ_1 := (blk_cell XZ.out 1).trans rfl
      have eXZ_2 := (blk_cell XZ.out 2).trans rfl
      have eXZ_3 := (blk_cell XZ.out 3).trans rfl
      have eXU_0 := (blk_cell XU.out 0).trans rfl
      have eXU_1 := (blk_cell XU.out 1).trans rfl
      have eXU_2 := (blk_cell XU.out 2).trans rfl
      have eXU_3 := (blk_cell XU.out 3).trans rfl
      have fXZ_0 := blk_frozen XZ.out 0
      have fXZ_1 := blk_frozen XZ.out 1
      have fXZ_2 := blk_frozen XZ.out 2
      have fXZ_3 := blk_frozen XZ.out 3
      have fXU_0 := blk_frozen XU.out 0
      have fXU_1 := blk_frozen XU.out 1
      have fXU_2 := blk_frozen XU.out 2
      have fXU_3 := blk_frozen XU.out 3
      go_wp2
      refine bodyPost_ret (results_list (rs := [.cell 4 70, .cell 5 30, .tmp 6, .tmp 7]) rfl (by simp) (.cell (w.heap.size + 2) 70 #[.bool false, .int .i64 ii, .int .i64 tt, .string TT] (0, 0) _ rfl ((far4 _ (w.heap.size + 3) _ _ _ _ (w.heap.size + 2) (by omega)).trans (blk4 (XZ.out) _ _ _ _)) Try.underlying70 rfl (by kernel_rfl) (.cell (w.heap.size + 3) 30 #[.int .i64 0, .int .i64 0, .slice none 0 0, .string ⟨#[]⟩] (0, 0) _ rfl (blk4 ((far4 _ (w.heap.size + 2) _ _ _ _ (w.heap.size + 3) (by omega)).trans (XU.out)) _ _ _ _) Try.underlying30 rfl (by kernel_rfl) (.tmp (.tmp .nil))))) rfl ?_
      exact ⟨_, by rw [TK2.out]; rfl, by rw [TK2.out]; exact Kd.R_nil _ _ _ _ _, below_f4 (below_f4 HB.out (by omega) _ _ _ _) (by omega) _ _ _ _⟩
    | true =>
      by_cases a1 : c.f0 = ii
      · have z1 : (c.f0 != ii) = false := bne_eq_false_iff_eq.mpr a1
        by_cases a2 : c.f1 = tt
        · have z2 : (c.f1 != tt) = false := bne_eq_false_iff_eq.mpr a2
          by_cases a3 : c.f2 = (TT.size : Int)
          · have z3 : (c.f2 != (TT.size : Int)) = false := bne_eq_false_iff_eq.mpr a3
            have TK2 : Aside0 (takeK b i t T c = takeT ii tt TT c) := ⟨TK.out.trans ((if_neg (by rintro (h | h | h); cases h; exact h a1; exact h a2)).trans (if_neg (by rw [a3]; simp)))⟩
            clear a1 a2 a3 TK
            by_cases hbig : TT.size + c.f4.size > 262144
            · have hs9 : (262144 < wrap64 ((TT.size : Int) + (c.f4.size : Int))) = True := eq_true (by rw [IntWalk.wrap64_in _ (by have := HT.out; have := HCD.out; omega)]; omega)
              have TK3 : Aside0 (takeK b i t T c = ((false, 0, 0, ⟨#[]⟩), zR 0)) := ⟨TK2.out.trans (if_pos hbig)⟩
              clear hbig TK2
              have TK2 := TK3
              have eXZ_0 := (blk_cell XZ.out 0).trans rfl
              have eXZ_1 := (blk_cell XZ.out 1).trans rfl
              have eXZ_2 := (blk_cell XZ.out 2).trans rfl
              have eXZ_3 := (blk_cell XZ.out 3).trans rfl
              have eXU_0 := (blk_cell XU.out 0).trans rfl
              have eXU_1 := (blk_cell XU.out 1).trans rfl
              have eXU_2 := (blk_cell XU.out 2).trans rfl
              have eXU_3 := (blk_cell XU.out 3).trans rfl
              have fXZ_0 := blk_frozen XZ.out 0
              have fXZ_1 := blk_frozen XZ.out 1
              have fXZ_2 := blk_frozen XZ.out 2
              have fXZ_3 := blk_frozen XZ.out 3
              have fXU_0 := blk_frozen XU.out 0
              have fXU_1 := blk_frozen XU.out 1
              have fXU_2 := blk_frozen XU.out 2
              have fXU_3 := blk_frozen XU.out 3
              go_wp2
              refine bodyPost_ret (results_list (rs := [.cell 4 70, .cell 5 30, .tmp 6, .tmp 7]) rfl (by simp) (.cell (w.heap.size + 2) 70 #[.bool false, .int .i64 0, .int .i64 0, .string ⟨#[]⟩] (0, 0) _ rfl ((far4 _ (w.heap.size + 3) _ _ _ _ (w.heap.size + 2) (by omega)).trans (blk4 (XZ.out) _ _ _ _)) Try.underlying70 rfl (by kernel_rfl) (.cell (w.heap.size + 3) 30 #[.int .i64 0, .int .i64 0, .slice none 0 0, .string ⟨#[]⟩] (0, 0) _ rfl (blk4 ((far4 _ (w.heap.size + 2) _ _ _ _ (w.heap.size + 3) (by omega)).trans (XU.out)) _ _ _ _) Try.underlying30 rfl (by kernel_rfl) (.tmp (.tmp .nil))))) rfl ?_
              exact ⟨_, by rw [TK2.out]; rfl, by rw [TK2.out]; exact Kd.R_nil _ _ _ _ _, below_f4 (below_f4 HB.out (by omega) _ _ _ _) (by omega) _ _ _ _⟩
            · have hs9 : (262144 < wrap64 ((TT.size : Int) + (c.f4.size : Int))) = False := eq_false (by rw [IntWalk.wrap64_in _ (by have := HT.out; have := HCD.out; omega)]; omega)
              have TK3 : Aside0 (takeK b i t T c = (if c.f3 = false then ((true, ii, tt, TT ++ c.f4), zR ((TT ++ c.f4).size : Int)) else if (decS 7 (TT ++ c.f4)).2.2.2.2 ≠ 0 ∨ (decS 7 (TT ++ c.f4)).1 ≠ c.f0 ∨ (decS 7 (TT ++ c.f4)).2.1 ≠ c.f1 then ((false, 0, 0, ⟨#[]⟩), zR 0) else ((false, 0, 0, ⟨#[]⟩), (((decS 7 (TT ++ c.f4)).1, (decS 7 (TT ++ c.f4)).2.1, (decS 7 (TT ++ c.f4)).2.2.1, (decS 7 (TT ++ c.f4)).2.2.2.1), true, 0)))) := ⟨TK2.out.trans (if_neg hbig)⟩
              have HBU : Aside0 ((TT ++ c.f4).size ≤ 262144) := ⟨by rw [size_app]; omega⟩
              have hsz : (9223372036854775807 < TT.size + c.f4.size) = False := eq_false (by omega)
              clear hbig TK2
              go_upto_region 10 with (fail)
              have XGx := Aside0.mk (blk_put (cs' := #[.bool true, .int .i64 ii, .int .i64 tt, .string (TT ++ c.f4)]) XG.out 3 (.string (TT ++ c.f4)) rfl)
              have XCx := Aside0.mk ((Below.heap_setCell wc ⟨w.heap.size, 3, none⟩ (.string (TT ++ c.f4)) (w.heap.size + 1) (by show w.heap.size + 1 ≠ w.heap.size; omega)).trans XC.out)
              have XZx := Aside0.mk ((Below.heap_setCell wc ⟨w.heap.size, 3, none⟩ (.string (TT ++ c.f4)) (w.heap.size + 2) (by show w.heap.size + 2 ≠ w.heap.size; omega)).trans XZ.out)
              have XUx := Aside0.mk ((Below.heap_setCell wc ⟨w.heap.size, 3, none⟩ (.string (TT ++ c.f4)) (w.heap.size + 3) (by show w.heap.size + 3 ≠ w.heap.size; omega)).trans XU.out)
              have HBx := Aside0.mk (HB.out.setCell (p := ⟨w.heap.size, 3, none⟩) (Nat.le_refl _) (.string (TT ++ c.f4)))
              have SZx : Aside0 ((wc.setCell ⟨w.heap.size, 3, none⟩ (.string (TT ++ c.f4))).heap.size = w.heap.size + 4) := ⟨by simp only [World.setCell, Array.size_modify]; exact SZ.out⟩
              clear XG XC XZ XU HB SZ eXC_0 eXC_1 eXC_2 eXC_3 eXC_4 eXG_0 eXG_1 eXG_2 eXG_3 fXG_0 fXG_1 fXG_2 fXG_3 hs9 hsz z1 z2 z3
              generalize wc.setCell ⟨w.heap.size, 3, none⟩ (.string (TT ++ c.f4)) = wx at XGx XCx XZx XUx HBx SZx ⊢
              generalize TT ++ c.f4 = U at *
              have eXCx_0 := (blk_cell XCx.out 0).trans rfl
              have eXCx_1 := (blk_cell XCx.out 1).trans rfl
              have eXCx_2 := (blk_cell XCx.out 2).trans rfl
              have eXCx_3 := (blk_cell XCx.out 3).trans rfl
              have eXCx_4 := (blk_cell XCx.out 4).trans rfl
              have eXGx_0 := (blk_cell XGx.out 0).trans rfl
              have eXGx_1 := (blk_cell XGx.out 1).trans rfl
              have eXGx_2 := (blk_cell XGx.out 2).trans rfl
              have eXGx_3 := (blk_cell XGx.out 3).trans rfl
              by_cases h3 : c.f3 = false
              · have TK2 : Aside0 (takeK b i t T c = ((true, ii, tt, U), zR (U.size : Int))) := ⟨TK3.out.trans (if_pos h3)⟩
                rw [h3] at eXCx_3
                clear h3 TK3
                have eXZx_0 := (blk_cell XZx.out 0).trans rfl
                have eXZx_1 := (blk_cell XZx.out 1).trans rfl
                have eXZx_2 := (blk_cell XZx.out 2).trans rfl
                have eXZx_3 := (blk_cell XZx.out 3).trans rfl
                have eXUx_0 := (blk_cell XUx.out 0).trans rfl
                have eXUx_1 := (blk_cell XUx.out 1).trans rfl
                have eXUx_2 := (blk_cell XUx.out 2).trans rfl
                have eXUx_3 := (blk_cell XUx.out 3).trans rfl
                have fXZx_0 := blk_frozen XZx.out 0
                have fXZx_1 := blk_frozen XZx.out 1
                have fXZx_2 := blk_frozen XZx.out 2
                have fXZx_3 := blk_frozen XZx.out 3
                have fXUx_0 := blk_frozen XUx.out 0
                have fXUx_1 := blk_frozen XUx.out 1
                have fXUx_2 := blk_frozen XUx.out 2
                have fXUx_3 := blk_frozen XUx.out 3
                go_upto_region 11 with (fail)
                have HS1 : Aside0 (((((wx.setCell ⟨w.heap.size + 1 + 1, 0, none⟩ (.bool true)).setCell ⟨w.heap.size + 1 + 1, 1, none⟩ (.int .i64 ii)).setCell ⟨w.heap.size + 1 + 1, 2, none⟩ (.int .i64 tt)).setCell ⟨w.heap.size + 1 + 1, 3, none⟩ (.string U)).drew.cell? ⟨w.heap.size, 0, none⟩ = some (.bool true) ∧ ((((wx.setCell ⟨w.heap.size + 1 + 1, 0, none⟩ (.bool true)).setCell ⟨w.heap.size + 1 + 1, 1, none⟩ (.int .i64 ii)).setCell ⟨w.heap.size + 1 + 1, 2, none⟩ (.int .i64 tt)).setCell ⟨w.heap.size + 1 + 1, 3, none⟩ (.string U)).drew.cell? ⟨w.heap.size, 1, none⟩ = some (.int .i64 ii) ∧ ((((wx.setCell ⟨w.heap.size + 1 + 1, 0, none⟩ (.bool true)).setCell ⟨w.heap.size + 1 + 1, 1, none⟩ (.int .i64 ii)).setCell ⟨w.heap.size + 1 + 1, 2, none⟩ (.int .i64 tt)).setCell ⟨w.heap.size + 1 + 1, 3, none⟩ (.string U)).drew.cell? ⟨w.heap.size, 2, none⟩ = some (.int .i64 tt) ∧ ((((wx.setCell ⟨w.heap.size + 1 + 1, 0, none⟩ (.bool true)).setCell ⟨w.heap.size + 1 + 1, 1, none⟩ (.int .i64 ii)).setCell ⟨w.heap.size + 1 + 1, 2, none⟩ (.int .i64 tt)).setCell ⟨w.heap.size + 1 + 1, 3, none⟩ (.string U)).drew.cell? ⟨w.heap.size, 3, none⟩ = some (.string U)) := ⟨held4 (blk_drew ((far4 _ _ _ _ _ _ (w.heap.size) (by omega)).trans XGx.out))⟩
                have HS0 : Aside0 (wx.drew.cell? ⟨w.heap.size, 0, none⟩ = some (.bool true) ∧ wx.drew.cell? ⟨w.heap.size, 1, none⟩ = some (.int .i64 ii) ∧ wx.drew.cell? ⟨w.heap.size, 2, none⟩ = some (.int .i64 tt) ∧ wx.drew.cell? ⟨w.heap.size, 3, none⟩ = some (.string U)) := ⟨held4 (blk_drew (XGx.out))⟩
                have HS2 : Aside0 (((((((((wx.setCell ⟨w.heap.size + 1 + 1, 0, none⟩ (.bool true)).setCell ⟨w.heap.size + 1 + 1, 1, none⟩ (.int .i64 ii)).setCell ⟨w.heap.size + 1 + 1, 2, none⟩ (.int .i64 tt)).setCell ⟨w.heap.size + 1 + 1, 3, none⟩ (.string U)).setCell ⟨w.heap.size + 1 + 1 + 1, 0, none⟩ (.int .i64 0)).setCell ⟨w.heap.size + 1 + 1 + 1, 1, none⟩ (.int .i64 0)).setCell ⟨w.heap.size + 1 + 1 + 1, 2, none⟩ (.slice none 0 0)).setCell ⟨w.heap.size + 1 + 1 + 1, 3, none⟩ (.string ⟨#[]⟩)).drew.cell? ⟨w.heap.size, 0, none⟩ = some (.bool true) ∧ ((((((((wx.setCell ⟨w.heap.size + 1 + 1, 0, none⟩ (.bool true)).setCell ⟨w.heap.size + 1 + 1, 1, none⟩ (.int .i64 ii)).setCell ⟨w.heap.size + 1 + 1, 2, none⟩ (.int .i64 tt)).setCell ⟨w.heap.size + 1 + 1, 3, none⟩ (.string U)).setCell ⟨w.heap.size + 1 + 1 + 1, 0, none⟩ (.int .i64 0)).setCell ⟨w.heap.size + 1 + 1 + 1, 1, none⟩ (.int .i64 0)).setCell ⟨w.heap.size + 1 + 1 + 1, 2, none⟩ (.slice none 0 0)).setCell ⟨w.heap.size + 1 + 1 + 1, 3, none⟩ (.string ⟨#[]⟩)).drew.cell? ⟨w.heap.size, 1, none⟩ = some (.int .i64 ii) ∧ ((((((((wx.setCell ⟨w.heap.size + 1 + 1, 0, none⟩ (.bool true)).setCell ⟨w.heap.size + 1 + 1, 1, none⟩ (.int .i64 ii)).setCell ⟨w.heap.size + 1 + 1, 2, none⟩ (.int .i64 tt)).setCell ⟨w.heap.size + 1 + 1, 3, none⟩ (.string U)).setCell ⟨w.heap.size + 1 + 1 + 1, 0, none⟩ (.int .i64 0)).setCell ⟨w.heap.size + 1 + 1 + 1, 1, none⟩ (.int .i64 0)).setCell ⟨w.heap.size + 1 + 1 + 1, 2, none⟩ (.slice none 0 0)).setCell ⟨w.heap.size + 1 + 1 + 1, 3, none⟩ (.string ⟨#[]⟩)).drew.cell? ⟨w.heap.size, 2, none⟩ = some (.int .i64 tt) ∧ ((((((((wx.setCell ⟨w.heap.size + 1 + 1, 0, none⟩ (.bool true)).setCell ⟨w.heap.size + 1 + 1, 1, none⟩ (.int .i64 ii)).setCell ⟨w.heap.size + 1 + 1, 2, none⟩ (.int .i64 tt)).setCell ⟨w.heap.size + 1 + 1, 3, none⟩ (.string U)).setCell ⟨w.heap.size + 1 + 1 + 1, 0, none⟩ (.int .i64 0)).setCell ⟨w.heap.size + 1 + 1 + 1, 1, none⟩ (.int .i64 0)).setCell ⟨w.heap.size + 1 + 1 + 1, 2, none⟩ (.slice none 0 0)).setCell ⟨w.heap.size + 1 + 1 + 1, 3, none⟩ (.string ⟨#[]⟩)).drew.cell? ⟨w.heap.size, 3, none⟩ = some (.string U)) := ⟨held4 (blk_drew ((far4 _ _ _ _ _ _ (w.heap.size) (by omega)).trans ((far4 _ _ _ _ _ _ (w.heap.size) (by omega)).trans XGx.out)))⟩
                go_region_held3 (fun w' => w'.cell? ⟨w.heap.size, 0, none⟩ = some (.bool true) ∧ w'.cell? ⟨w.heap.size, 1, none⟩ = some (.int .i64 ii) ∧ w'.cell? ⟨w.heap.size, 2, none⟩ = some (.int .i64 tt) ∧ w'.cell? ⟨w.heap.size, 3, none⟩ = some (.string U)) (first | with_reducible exact HS0.out | with_reducible exact HS1.out | with_reducible exact HS2.out) (fail)
                clear HS0 HS1 HS2
                go_wp2
                refine bodyPost_ret (results_list (rs := [.cell 4 70, .cell 5 30, .tmp 6, .tmp 7]) rfl (by simp) (.cell (w.heap.size + 2) 70 #[.bool true, .int .i64 ii, .int .i64 tt, .string U] (0, 0) _ rfl (blk_drew ((far4 _ (w.heap.size + 3) _ _ _ _ (w.heap.size + 2) (by omega)).trans (blk4 (XZx.out) _ _ _ _))) Try.underlying70 rfl (by kernel_rfl) (.cell (w.heap.size + 3) 30 #[.int .i64 0, .int .i64 0, .slice none 0 0, .string ⟨#[]⟩] (0, 0) _ rfl (blk_drew (blk4 ((far4 _ (w.heap.size + 2) _ _ _ _ (w.heap.size + 3) (by omega)).trans (XUx.out)) _ _ _ _)) Try.underlying30 rfl (by kernel_rfl) (.tmp (.tmp .nil))))) rfl ?_
                exact ⟨_, by rw [TK2.out]; rfl, by rw [TK2.out]; exact Kd.R_nil _ _ _ _ _, below_drew1 (below_f4 (below_f4 HBx.out (by omega) _ _ _ _) (by omega) _ _ _ _)⟩
              · have h3t : c.f3 = true := by cases hc : c.f3 with
                  | true => rfl
                  | false => exact absurd hc h3
                have TK4 := TK3.out.trans (if_neg h3)
                rw [h3t] at eXCx_3
                clear h3 h3t TK3
                obtain ⟨k2, hk2⟩ := (rdec_ev U (Nat.le_trans HBU.out (by decide))).rounds
                obtain ⟨r, hr⟩ : ∃ r, r = decS 7 U := ⟨_, rfl⟩
                rw [← hr] at hk2 TK4
                have TK5 := Aside0.mk TK4
                obtain ⟨r1, r2, r3, r4, r5⟩ := r
                have HD := Aside0.mk hk2
                clear hk2 hr TK4
                go_wp2_with (fail)
                refine (stowageref07_Decode.calls k2 U r1 r2 r3 r4 r5 _ HD.out).mono ?_
                rintro e w5 ⟨v5, rfl, hR, hb⟩
                obtain ⟨A5, c5, rfl⟩ := Kd.R_slice hR
                have b6 : Below w5.heap.size w5 (w5.alloc (.cells #[.int .i64 r1, .int .i64 r2, .slice A5 r3.length c5, .string r4] 30 (0, 0))) := below_alloc (Below.refl _ _) _
                have hbb := hb.trans (b6.mono hb.size)
                have XC6 := Aside0.mk ((hbb.block _ (by have := SZx.out; omega)).trans XCx.out)
                have XZ6 := Aside0.mk ((hbb.block _ (by have := SZx.out; omega)).trans XZx.out)
                have XU6 := Aside0.mk ((hbb.block _ (by have := SZx.out; omega)).trans XUx.out)
                have YB6 := Aside0.mk (heap_alloc_new w5 (.cells #[.int .i64 r1, .int .i64 r2, .slice A5 r3.length c5, .string r4] 30 (0, 0)))
                have HB6 := Aside0.mk (HBx.out.trans (hbb.mono HBx.out.size))
                have R6 := Aside0.mk (Kd.R_bound (Kd.R_below hR b6))
                have N5 : Aside0 (w.heap.size + 4 ≤ w5.heap.size) := ⟨Nat.le_trans (Nat.le_of_eq SZx.out.symm) hb.size⟩
                clear hR hb b6 hbb XCx XZx XUx XGx HBx eXCx_0 eXCx_1 eXCx_2 eXCx_3 eXCx_4 eXGx_0 eXGx_1 eXGx_2 eXGx_3
                go_upto_region 13 with (fail)
                generalize w5.alloc (.cells #[.int .i64 r1, .int .i64 r2, .slice A5 r3.length c5, .string r4] 30 (0, 0)) = w6 at XC6 XZ6 XU6 YB6 HB6 R6 ⊢
                have eXC6_0 := (blk_cell XC6.out 0).trans rfl
                have eXC6_1 := (blk_cell XC6.out 1).trans rfl
                have eXC6_2 := (blk_cell XC6.out 2).trans rfl
                have eXC6_3 := (blk_cell XC6.out 3).trans rfl
                have eXC6_4 := (blk_cell XC6.out 4).trans rfl
                have eYB6_0 := (blk_cell YB6.out 0).trans rfl
                have eYB6_1 := (blk_cell YB6.out 1).trans rfl
                have eYB6_2 := (blk_cell YB6.out 2).trans rfl
                have eYB6_3 := (blk_cell YB6.out 3).trans rfl
                by_cases hok : r5 ≠ 0 ∨ r1 ≠ c.f0 ∨ r2 ≠ c.f1
                · have TK2 : Aside0 (takeK b i t T c = ((false, 0, 0, ⟨#[]⟩), zR 0)) := ⟨TK5.out.trans (if_pos hok)⟩
                  have HOK := Aside0.mk hok
                  clear hok TK5
                  have eXZ6_0 := (blk_cell XZ6.out 0).trans rfl
                  have eXZ6_1 := (blk_cell XZ6.out 1).trans rfl
                  have eXZ6_2 := (blk_cell XZ6.out 2).trans rfl
                  have eXZ6_3 := (blk_cell XZ6.out 3).trans rfl
                  have eXU6_0 := (blk_cell XU6.out 0).trans rfl
                  have eXU6_1 := (blk_cell XU6.out 1).trans rfl
                  have eXU6_2 := (blk_cell XU6.out 2).trans rfl
                  have eXU6_3 := (blk_cell XU6.out 3).trans rfl
                  have fXZ6_0 := blk_frozen XZ6.out 0
                  have fXZ6_1 := blk_frozen XZ6.out 1
                  have fXZ6_2 := blk_frozen XZ6.out 2
                  have fXZ6_3 := blk_frozen XZ6.out 3
                  have fXU6_0 := blk_frozen XU6.out 0
                  have fXU6_1 := blk_frozen XU6.out 1
                  have fXU6_2 := blk_frozen XU6.out 2
                  have fXU6_3 := blk_frozen XU6.out 3
                  have d1 : r5 = 0 ∨ (r5 != 0) = true := (Decidable.em (r5 = 0)).imp id (fun h => bne_iff_ne.mpr h)
                  have d2 : (r1 != c.f0) = false ∨ (r1 != c.f0) = true := by cases (r1 != c.f0) <;> simp
                  rcases d1 with d1 | d1
                  · have d1' : (r5 != 0) = false := bne_eq_false_iff_eq.mpr d1
                    rcases d2 with d2 | d2
                    · have d3 : (r2 != c.f1) = true := bne_iff_ne.mpr (HOK.out.elim (fun h => absurd d1 h) (fun h => h.elim (fun h => absurd (bne_eq_false_iff_eq.1 d2) h) id))
                      clear d1
                      go_wp2
                      refine bodyPost_ret (results_list (rs := [.cell 4 70, .cell 5 30, .tmp 6, .tmp 7]) rfl (by simp) (.cell (w.heap.size + 2) 70 #[.bool false, .int .i64 0, .int .i64 0, .string ⟨#[]⟩] (0, 0) _ rfl ((far4 _ (w.heap.size + 3) _ _ _ _ (w.heap.size + 2) (by omega)).trans (blk4 (XZ6.out) _ _ _ _)) Try.underlying70 rfl (by kernel_rfl) (.cell (w.heap.size + 3) 30 #[.int .i64 0, .int .i64 0, .slice none 0 0, .string ⟨#[]⟩] (0, 0) _ rfl (blk4 ((far4 _ (w.heap.size + 2) _ _ _ _ (w.heap.size + 3) (by omega)).trans (XU6.out)) _ _ _ _) Try.underlying30 rfl (by kernel_rfl) (.tmp (.tmp .nil))))) rfl ?_
                      exact ⟨_, by rw [TK2.out]; rfl, by rw [TK2.out]; exact Kd.R_nil _ _ _ _ _, below_f4 (below_f4 HB6.out (by omega) _ _ _ _) (by omega) _ _ _ _⟩
                    · clear d1
                      go_wp2
                      refine bodyPost_ret (results_list (rs := [.cell 4 70, .cell 5 30, .tmp 6, .tmp 7]) rfl (by simp) (.cell (w.heap.size + 2) 70 #[.bool false, .int .i64 0, .int .i64 0, .string ⟨#[]⟩] (0, 0) _ rfl ((far4 _ (w.heap.size + 3) _ _ _ _ (w.heap.size + 2) (by omega)).trans (blk4 (XZ6.out) _ _ _ _)) Try.underlying70 rfl (by kernel_rfl) (.cell (w.heap.size + 3) 30 #[.int .i64 0, .int .i64 0, .slice none 0 0, .string ⟨#[]⟩] (0, 0) _ rfl (blk4 ((far4 _ (w.heap.size + 2) _ _ _ _ (w.heap.size + 3) (by omega)).trans (XU6.out)) _ _ _ _) Try.underlying30 rfl (by kernel_rfl) (.tmp (.tmp .nil))))) rfl ?_
                      exact ⟨_, by rw [TK2.out]; rfl, by rw [TK2.out]; exact Kd.R_nil _ _ _ _ _, below_f4 (below_f4 HB6.out (by omega) _ _ _ _) (by omega) _ _ _ _⟩
                  · clear d2
                    go_wp2
                    refine bodyPost_ret (results_list (rs := [.cell 4 70, .cell 5 30, .tmp 6, .tmp 7]) rfl (by simp) (.cell (w.heap.size + 2) 70 #[.bool false, .int .i64 0, .int .i64 0, .string ⟨#[]⟩] (0, 0) _ rfl ((far4 _ (w.heap.size + 3) _ _ _ _ (w.heap.size + 2) (by omega)).trans (blk4 (XZ6.out) _ _ _ _)) Try.underlying70 rfl (by kernel_rfl) (.cell (w.heap.size + 3) 30 #[.int .i64 0, .int .i64 0, .slice none 0 0, .string ⟨#[]⟩] (0, 0) _ rfl (blk4 ((far4 _ (w.heap.size + 2) _ _ _ _ (w.heap.size + 3) (by omega)).trans (XU6.out)) _ _ _ _) Try.underlying30 rfl (by kernel_rfl) (.tmp (.tmp .nil))))) rfl ?_
                    exact ⟨_, by rw [TK2.out]; rfl, by rw [TK2.out]; exact Kd.R_nil _ _ _ _ _, below_f4 (below_f4 HB6.out (by omega) _ _ _ _) (by omega) _ _ _ _⟩
                · have TK2 : Aside0 (takeK b i t T c = ((false, 0, 0, ⟨#[]⟩), ((r1, r2, r3, r4), true, 0))) := ⟨TK5.out.trans (if_neg hok)⟩
                  have d1 : (r5 != 0) = false := bne_eq_false_iff_eq.mpr (Decidable.byContradiction (fun h => hok (Or.inl h)))
                  have d2 : (r1 != c.f0) = false := bne_eq_false_iff_eq.mpr (Decidable.byContradiction (fun h => hok (Or.inr (Or.inl h))))
                  have d3 : (r2 != c.f1) = false := bne_eq_false_iff_eq.mpr (Decidable.byContradiction (fun h => hok (Or.inr (Or.inr h))))
                  clear hok TK5
                  have eXZ6_0 := (blk_cell XZ6.out 0).trans rfl
                  have eXZ6_1 := (blk_cell XZ6.out 1).trans rfl
                  have eXZ6_2 := (blk_cell XZ6.out 2).trans rfl
                  have eXZ6_3 := (blk_cell XZ6.out 3).trans rfl
                  have eXU6_0 := (blk_cell XU6.out 0).trans rfl
                  have eXU6_1 := (blk_cell XU6.out 1).trans rfl
                  have eXU6_2 := (blk_cell XU6.out 2).trans rfl
                  have eXU6_3 := (blk_cell XU6.out 3).trans rfl
                  have fXZ6_0 := blk_frozen XZ6.out 0
                  have fXZ6_1 := blk_frozen XZ6.out 1
                  have fXZ6_2 := blk_frozen XZ6.out 2
                  have fXZ6_3 := blk_frozen XZ6.out 3
                  have fXU6_0 := blk_frozen XU6.out 0
                  have fXU6_1 := blk_frozen XU6.out 1
                  have fXU6_2 := blk_frozen XU6.out 2
                  have fXU6_3 := blk_frozen XU6.out 3
                  go_upto_region 15 with (fail)
                  have HS1 : Aside0 (((((w6.setCell ⟨w.heap.size + 1 + 1, 0, none⟩ (.bool false)).setCell ⟨w.heap.size + 1 + 1, 1, none⟩ (.int .i64 0)).setCell ⟨w.heap.size + 1 + 1, 2, none⟩ (.int .i64 0)).setCell ⟨w.heap.size + 1 + 1, 3, none⟩ (.string ⟨#[]⟩)).drew.cell? ⟨w5.heap.size, 0, none⟩ = some (.int .i64 r1) ∧ ((((w6.setCell ⟨w.heap.size + 1 + 1, 0, none⟩ (.bool false)).setCell ⟨w.heap.size + 1 + 1, 1, none⟩ (.int .i64 0)).setCell ⟨w.heap.size + 1 + 1, 2, none⟩ (.int .i64 0)).setCell ⟨w.heap.size + 1 + 1, 3, none⟩ (.string ⟨#[]⟩)).drew.cell? ⟨w5.heap.size, 1, none⟩ = some (.int .i64 r2) ∧ ((((w6.setCell ⟨w.heap.size + 1 + 1, 0, none⟩ (.bool false)).setCell ⟨w.heap.size + 1 + 1, 1, none⟩ (.int .i64 0)).setCell ⟨w.heap.size + 1 + 1, 2, none⟩ (.int .i64 0)).setCell ⟨w.heap.size + 1 + 1, 3, none⟩ (.string ⟨#[]⟩)).drew.cell? ⟨w5.heap.size, 2, none⟩ = some (.slice A5 r3.length c5) ∧ ((((w6.setCell ⟨w.heap.size + 1 + 1, 0, none⟩ (.bool false)).setCell ⟨w.heap.size + 1 + 1, 1, none⟩ (.int .i64 0)).setCell ⟨w.heap.size + 1 + 1, 2, none⟩ (.int .i64 0)).setCell ⟨w.heap.size + 1 + 1, 3, none⟩ (.string ⟨#[]⟩)).drew.cell? ⟨w5.heap.size, 3, none⟩ = some (.string r4)) := ⟨held4 (blk_drew ((far4 _ _ _ _ _ _ (w5.heap.size) (by have := N5.out; omega)).trans YB6.out))⟩
                  have HS0 : Aside0 (w6.drew.cell? ⟨w5.heap.size, 0, none⟩ = some (.int .i64 r1) ∧ w6.drew.cell? ⟨w5.heap.size, 1, none⟩ = some (.int .i64 r2) ∧ w6.drew.cell? ⟨w5.heap.size, 2, none⟩ = some (.slice A5 r3.length c5) ∧ w6.drew.cell? ⟨w5.heap.size, 3, none⟩ = some (.string r4)) := ⟨held4 (blk_drew (YB6.out))⟩
                  have HS2 : Aside0 (((((((((w6.setCell ⟨w.heap.size + 1 + 1, 0, none⟩ (.bool false)).setCell ⟨w.heap.size + 1 + 1, 1, none⟩ (.int .i64 0)).setCell ⟨w.heap.size + 1 + 1, 2, none⟩ (.int .i64 0)).setCell ⟨w.heap.size + 1 + 1, 3, none⟩ (.string ⟨#[]⟩)).setCell ⟨w.heap.size + 1 + 1 + 1, 0, none⟩ (.int .i64 r1)).setCell ⟨w.heap.size + 1 + 1 + 1, 1, none⟩ (.int .i64 r2)).setCell ⟨w.heap.size + 1 + 1 + 1, 2, none⟩ (.slice A5 r3.length c5)).setCell ⟨w.heap.size + 1 + 1 + 1, 3, none⟩ (.string r4)).drew.cell? ⟨w5.heap.size, 0, none⟩ = some (.int .i64 r1) ∧ ((((((((w6.setCell ⟨w.heap.size + 1 + 1, 0, none⟩ (.bool false)).setCell ⟨w.heap.size + 1 + 1, 1, none⟩ (.int .i64 0)).setCell ⟨w.heap.size + 1 + 1, 2, none⟩ (.int .i64 0)).setCell ⟨w.heap.size + 1 + 1, 3, none⟩ (.string ⟨#[]⟩)).setCell ⟨w.heap.size + 1 + 1 + 1, 0, none⟩ (.int .i64 r1)).setCell ⟨w.heap.size + 1 + 1 + 1, 1, none⟩ (.int .i64 r2)).setCell ⟨w.heap.size + 1 + 1 + 1, 2, none⟩ (.slice A5 r3.length c5)).setCell ⟨w.heap.size + 1 + 1 + 1, 3, none⟩ (.string r4)).drew.cell? ⟨w5.heap.size, 1, none⟩ = some (.int .i64 r2) ∧ ((((((((w6.setCell ⟨w.heap.size + 1 + 1, 0, none⟩ (.bool false)).setCell ⟨w.heap.size + 1 + 1, 1, none⟩ (.int .i64 0)).setCell ⟨w.heap.size + 1 + 1, 2, none⟩ (.int .i64 0)).setCell ⟨w.heap.size + 1 + 1, 3, none⟩ (.string ⟨#[]⟩)).setCell ⟨w.heap.size + 1 + 1 + 1, 0, none⟩ (.int .i64 r1)).setCell ⟨w.heap.size + 1 + 1 + 1, 1, none⟩ (.int .i64 r2)).setCell ⟨w.heap.size + 1 + 1 + 1, 2, none⟩ (.slice A5 r3.length c5)).setCell ⟨w.heap.size + 1 + 1 + 1, 3, none⟩ (.string r4)).drew.cell? ⟨w5.heap.size, 2, none⟩ = some (.slice A5 r3.length c5) ∧ ((((((((w6.setCell ⟨w.heap.size + 1 + 1, 0, none⟩ (.bool false)).setCell ⟨w.heap.size + 1 + 1, 1, none⟩ (.int .i64 0)).setCell ⟨w.heap.size + 1 + 1, 2, none⟩ (.int .i64 0)).setCell ⟨w.heap.size + 1 + 1, 3, none⟩ (.string ⟨#[]⟩)).setCell ⟨w.heap.size + 1 + 1 + 1, 0, none⟩ (.int .i64 r1)).setCell ⟨w.heap.size + 1 + 1 + 1, 1, none⟩ (.int .i64 r2)).setCell ⟨w.heap.size + 1 + 1 + 1, 2, none⟩ (.slice A5 r3.length c5)).setCell ⟨w.heap.size + 1 + 1 + 1, 3, none⟩ (.string r4)).drew.cell? ⟨w5.heap.size, 3, none⟩ = some (.string r4)) := ⟨held4 (blk_drew ((far4 _ _ _ _ _ _ (w5.heap.size) (by have := N5.out; omega)).trans ((far4 _ _ _ _ _ _ (w5.heap.size) (by have := N5.out; omega)).trans YB6.out)))⟩
                  go_region_held3 (fun w' => w'.cell? ⟨w5.heap.size, 0, none⟩ = some (.int .i64 r1) ∧ w'.cell? ⟨w5.heap.size, 1, none⟩ = some (.int .i64 r2) ∧ w'.cell? ⟨w5.heap.size, 2, none⟩ = some (.slice A5 r3.length c5) ∧ w'.cell? ⟨w5.heap.size, 3, none⟩ = some (.string r4)) (first | with_reducible exact HS0.out | with_reducible exact HS1.out | with_reducible exact HS2.out) (fail)
                  clear HS0 HS1 HS2
                  go_wp2
                  refine bodyPost_ret (results_list (rs := [.cell 4 70, .cell 5 30, .tmp 6, .tmp 7]) rfl (by simp) (.cell (w.heap.size + 2) 70 #[.bool false, .int .i64 0, .int .i64 0, .string ⟨#[]⟩] (0, 0) _ rfl (blk_drew ((far4 _ (w.heap.size + 3) _ _ _ _ (w.heap.size + 2) (by omega)).trans (blk4 (XZ6.out) _ _ _ _))) Try.underlying70 rfl (by kernel_rfl) (.cell (w.heap.size + 3) 30 #[.int .i64 r1, .int .i64 r2, .slice A5 r3.length c5, .string r4] (0, 0) _ rfl (blk_drew (blk4 ((far4 _ (w.heap.size + 2) _ _ _ _ (w.heap.size + 3) (by omega)).trans (XU6.out)) _ _ _ _)) Try.underlying30 rfl (by kernel_rfl) (.tmp (.tmp .nil))))) rfl ?_
                  refine ⟨.slice A5 r3.length c5, by rw [TK2.out]; rfl, ?_, below_drew1 (below_f4 (below_f4 HB6.out (by omega) _ _ _ _) (by omega) _ _ _ _)⟩
                  rw [TK2.out]
                  refine Kd.R_drew ?_
                  exact Kd.R_mono (Kd.R_lower (Kd.R_step R6.out (fun k hk _ => (far4 _ _ _ _ _ _ k (by have := hk.2.1; have := SZx.out; omega)).trans (far4 _ _ _ _ _ _ k (by have := hk.2.1; have := SZx.out; omega)))) (by have := SZx.out; omega)) (fun _ _ => trivial)
          · have z3 : (c.f2 != (TT.size : Int)) = true := bne_iff_ne.mpr a3
            have TK2 : Aside0 (takeK b i t T c = ((true, ii, tt, TT), zR (TT.size : Int))) := ⟨TK.out.trans ((if_neg (by rintro (h | h | h); cases h; exact h a1; exact h a2)).trans (if_pos a3))⟩
            clear a1 a2 a3 TK
            have eXZ_0 := (blk_cell XZ.out 0).trans rfl
            have eXZ_1 := (blk_cell XZ.out 1).trans rfl
            have eXZ_2 := (blk_cell XZ.out 2).trans rfl
            have eXZ_3 := (blk_cell XZ.out 3).trans rfl
            have eXU_0 := (blk_cell XU.out 0).trans rfl
            have eXU_1 := (blk_cell XU.out 1).trans rfl
            have eXU_2 := (blk_cell XU.out 2).trans rfl
            have eXU_3 := (blk_cell XU.out 3).trans rfl
            have fXZ_0 := blk_frozen XZ.out 0
            have fXZ_1 := blk_frozen XZ.out 1
            have fXZ_2 := blk_frozen XZ.out 2
            have fXZ_3 := blk_frozen XZ.out 3
            have fXU_0 := blk_frozen XU.out 0
            have fXU_1 := blk_frozen XU.out 1
            have fXU_2 := blk_frozen XU.out 2
            have fXU_3 := blk_frozen XU.out 3
            go_upto_region 6 with (fail)
            have HS1 : Aside0 (((((wc.setCell ⟨w.heap.size + 1 + 1, 0, none⟩ (.bool true)).setCell ⟨w.heap.size + 1 + 1, 1, none⟩ (.int .i64 ii)).setCell ⟨w.heap.size + 1 + 1, 2, none⟩ (.int .i64 tt)).setCell ⟨w.heap.size + 1 + 1, 3, none⟩ (.string TT)).drew.cell? ⟨w.heap.size, 0, none⟩ = some (.bool true) ∧ ((((wc.setCell ⟨w.heap.size + 1 + 1, 0, none⟩ (.bool true)).setCell ⟨w.heap.size + 1 + 1, 1, none⟩ (.int .i64 ii)).setCell ⟨w.heap.size + 1 + 1, 2, none⟩ (.int .i64 tt)).setCell ⟨w.heap.size + 1 + 1, 3, none⟩ (.string TT)).drew.cell? ⟨w.heap.size, 1, none⟩ = some (.int .i64 ii) ∧ ((((wc.setCell ⟨w.heap.size + 1 + 1, 0, none⟩ (.bool true)).setCell ⟨w.heap.size + 1 + 1, 1, none⟩ (.int .i64 ii)).setCell ⟨w.heap.size + 1 + 1, 2, none⟩ (.int .i64 tt)).setCell ⟨w.heap.size + 1 + 1, 3, none⟩ (.string TT)).drew.cell? ⟨w.heap.size, 2, none⟩ = some (.int .i64 tt) ∧ ((((wc.setCell ⟨w.heap.size + 1 + 1, 0, none⟩ (.bool true)).setCell ⟨w.heap.size + 1 + 1, 1, none⟩ (.int .i64 ii)).setCell ⟨w.heap.size + 1 + 1, 2, none⟩ (.int .i64 tt)).setCell ⟨w.heap.size + 1 + 1, 3, none⟩ (.string TT)).drew.cell? ⟨w.heap.size, 3, none⟩ = some (.string TT)) := ⟨held4 (blk_drew ((far4 _ _ _ _ _ _ (w.heap.size) (by omega)).trans XG.out))⟩
            have HS0 : Aside0 (wc.drew.cell? ⟨w.heap.size, 0, none⟩ = some (.bool true) ∧ wc.drew.cell? ⟨w.heap.size, 1, none⟩ = some (.int .i64 ii) ∧ wc.drew.cell? ⟨w.heap.size, 2, none⟩ = some (.int .i64 tt) ∧ wc.drew.cell? ⟨w.heap.size, 3, none⟩ = some (.string TT)) := ⟨held4 (blk_drew (XG.out))⟩
            have HS2 : Aside0 (((((((((wc.setCell ⟨w.heap.size + 1 + 1, 0, none⟩ (.bool true)).setCell ⟨w.heap.size + 1 + 1, 1, none⟩ (.int .i64 ii)).setCell ⟨w.heap.size + 1 + 1, 2, none⟩ (.int .i64 tt)).setCell ⟨w.heap.size + 1 + 1, 3, none⟩ (.string TT)).setCell ⟨w.heap.size + 1 + 1 + 1, 0, none⟩ (.int .i64 0)).setCell ⟨w.heap.size + 1 + 1 + 1, 1, none⟩ (.int .i64 0)).setCell ⟨w.heap.size + 1 + 1 + 1, 2, none⟩ (.slice none 0 0)).setCell ⟨w.heap.size + 1 + 1 + 1, 3, none⟩ (.string ⟨#[]⟩)).drew.cell? ⟨w.heap.size, 0, none⟩ = some (.bool true) ∧ ((((((((wc.setCell ⟨w.heap.size + 1 + 1, 0, none⟩ (.bool true)).setCell ⟨w.heap.size + 1 + 1, 1, none⟩ (.int .i64 ii)).setCell ⟨w.heap.size + 1 + 1, 2, none⟩ (.int .i64 tt)).setCell ⟨w.heap.size + 1 + 1, 3, none⟩ (.string TT)).setCell ⟨w.heap.size + 1 + 1 + 1, 0, none⟩ (.int .i64 0)).setCell ⟨w.heap.size + 1 + 1 + 1, 1, none⟩ (.int .i64 0)).setCell ⟨w.heap.size + 1 + 1 + 1, 2, none⟩ (.slice none 0 0)).setCell ⟨w.heap.size + 1 + 1 + 1, 3, none⟩ (.string ⟨#[]⟩)).drew.cell? ⟨w.heap.size, 1, none⟩ = some (.int .i64 ii) ∧ ((((((((wc.setCell ⟨w.heap.size + 1 + 1, 0, none⟩ (.bool true)).setCell ⟨w.heap.size + 1 + 1, 1, none⟩ (.int .i64 ii)).setCell ⟨w.heap.size + 1 + 1, 2, none⟩ (.int .i64 tt)).setCell ⟨w.heap.size + 1 + 1, 3, none⟩ (.string TT)).setCell ⟨w.heap.size + 1 + 1 + 1, 0, none⟩ (.int .i64 0)).setCell ⟨w.heap.size + 1 + 1 + 1, 1, none⟩ (.int .i64 0)).setCell ⟨w.heap.size + 1 + 1 + 1, 2, none⟩ (.slice none 0 0)).setCell ⟨w.heap.size + 1 + 1 + 1, 3, none⟩ (.string ⟨#[]⟩)).drew.cell? ⟨w.heap.size, 2, none⟩ = some (.int .i64 tt) ∧ ((((((((wc.setCell ⟨w.heap.size + 1 + 1, 0, none⟩ (.bool true)).setCell ⟨w.heap.size + 1 + 1, 1, none⟩ (.int .i64 ii)).setCell ⟨w.heap.size + 1 + 1, 2, none⟩ (.int .i64 tt)).setCell ⟨w.heap.size + 1 + 1, 3, none⟩ (.string TT)).setCell ⟨w.heap.size + 1 + 1 + 1, 0, none⟩ (.int .i64 0)).setCell ⟨w.heap.size + 1 + 1 + 1, 1, none⟩ (.int .i64 0)).setCell ⟨w.heap.size + 1 + 1 + 1, 2, none⟩ (.slice none 0 0)).setCell ⟨w.heap.size + 1 + 1 + 1, 3, none⟩ (.string ⟨#[]⟩)).drew.cell? ⟨w.heap.size, 3, none⟩ = some (.string TT)) := ⟨held4 (blk_drew ((far4 _ _ _ _ _ _ (w.heap.size) (by omega)).trans ((far4 _ _ _ _ _ _ (w.heap.size) (by omega)).trans XG.out)))⟩
            go_region_held3 (fun w' => w'.cell? ⟨w.heap.size, 0, none⟩ = some (.bool true) ∧ w'.cell? ⟨w.heap.size, 1, none⟩ = some (.int .i64 ii) ∧ w'.cell? ⟨w.heap.size, 2, none⟩ = some (.int .i64 tt) ∧ w'.cell? ⟨w.heap.size, 3, none⟩ = some (.string TT)) (first | with_reducible exact HS0.out | with_reducible exact HS1.out | with_reducible exact HS2.out) (fail)
            clear HS0 HS1 HS2
            go_wp2
            refine bodyPost_ret (results_list (rs := [.cell 4 70, .cell 5 30, .tmp 6, .tmp 7]) rfl (by simp) (.cell (w.heap.size + 2) 70 #[.bool true, .int .i64 ii, .int .i64 tt, .string TT] (0, 0) _ rfl (blk_drew ((far4 _ (w.heap.size + 3) _ _ _ _ (w.heap.size + 2) (by omega)).trans (blk4 (XZ.out) _ _ _ _))) Try.underlying70 rfl (by kernel_rfl) (.cell (w.heap.size + 3) 30 #[.int .i64 0, .int .i64 0, .slice none 0 0, .string ⟨#[]⟩] (0, 0) _ rfl (blk_drew (blk4 ((far4 _ (w.heap.size + 2) _ _ _ _ (w.heap.size + 3) (by omega)).trans (XU.out)) _ _ _ _)) Try.underlying30 rfl (by kernel_rfl) (.tmp (.tmp .nil))))) rfl ?_
            exact ⟨_, by rw [TK2.out]; rfl, by rw [TK2.out]; exact Kd.R_nil _ _ _ _ _, below_drew1 (below_f4 (below_f4 HB.out (by omega) _ _ _ _) (by omega) _ _ _ _)⟩
        · have z2 : (c.f1 != tt) = true := bne_iff_ne.mpr a2
          have TK2 : Aside0 (takeK b i t T c = ((true, ii, tt, TT), zR 0)) := ⟨TK.out.trans (if_pos (Or.inr (Or.inr a2)))⟩
          clear a1 a2 TK
          have eXZ_0 := (blk_cell XZ.out 0).trans rfl
          have eXZ_1 := (blk_cell XZ.out 1).trans rfl
          have eXZ_2 := (blk_cell XZ.out 2).trans rfl
          have eXZ_3 := (blk_cell XZ.out 3).trans rfl
          have eXU_0 := (blk_cell XU.out 0).trans rfl
          have eXU_1 := (blk_cell XU.out 1).trans rfl
          have eXU_2 := (blk_cell XU.out 2).trans rfl
          have eXU_3 := (blk_cell XU.out 3).trans rfl
          have fXZ_0 := blk_frozen XZ.out 0
          have fXZ_1 := blk_frozen XZ.out 1
          have fXZ_2 := blk_frozen XZ.out 2
          have fXZ_3 := blk_frozen XZ.out 3
          have fXU_0 := blk_frozen XU.out 0
          have fXU_1 := blk_frozen XU.out 1
          have fXU_2 := blk_frozen XU.out 2
          have fXU_3 := blk_frozen XU.out 3
          go_wp2
          refine bodyPost_ret (results_list (rs := [.cell 4 70, .cell 5 30, .tmp 6, .tmp 7]) rfl (by simp) (.cell (w.heap.size + 2) 70 #[.bool true, .int .i64 ii, .int .i64 tt, .string TT] (0, 0) _ rfl ((far4 _ (w.heap.size + 3) _ _ _ _ (w.heap.size + 2) (by omega)).trans (blk4 (XZ.out) _ _ _ _)) Try.underlying70 rfl (by kernel_rfl) (.cell (w.heap.size + 3) 30 #[.int .i64 0, .int .i64 0, .slice none 0 0, .string ⟨#[]⟩] (0, 0) _ rfl (blk4 ((far4 _ (w.heap.size + 2) _ _ _ _ (w.heap.size + 3) (by omega)).trans (XU.out)) _ _ _ _) Try.underlying30 rfl (by kernel_rfl) (.tmp (.tmp .nil))))) rfl ?_
          exact ⟨_, by rw [TK2.out]; rfl, by rw [TK2.out]; exact Kd.R_nil _ _ _ _ _, below_f4 (below_f4 HB.out (by omega) _ _ _ _) (by omega) _ _ _ _⟩
      · have z1 : (c.f0 != ii) = true := bne_iff_ne.mpr a1
        have TK2 : Aside0 (takeK b i t T c = ((true, ii, tt, TT), zR 0)) := ⟨TK.out.trans (if_pos (Or.inr (Or.inl a1)))⟩
        clear a1 TK
        have eXZ_0 := (blk_cell XZ.out 0).trans rfl
        have eXZ_1 := (blk_cell XZ.out 1).trans rfl
        have eXZ_2 := (blk_cell XZ.out 2).trans rfl
        have eXZ_3 := (blk_cell XZ.out 3).trans rfl
        have eXU_0 := (blk_cell XU.out 0).trans rfl
        have eXU_1 := (blk_cell XU.out 1).trans rfl
        have eXU_2 := (blk_cell XU.out 2).trans rfl
        have eXU_3 := (blk_cell XU.out 3).trans rfl
        have fXZ_0 := blk_frozen XZ.out 0
        have fXZ_1 := blk_frozen XZ.out 1
        have fXZ_2 := blk_frozen XZ.out 2
        have fXZ_3 := blk_frozen XZ.out 3
        have fXU_0 := blk_frozen XU.out 0
        have fXU_1 := blk_frozen XU.out 1
        have fXU_2 := blk_frozen XU.out 2
        have fXU_3 := blk_frozen XU.out 3
        go_wp2
        refine bodyPost_ret (results_list (rs := [.cell 4 70, .cell 5 30, .tmp 6, .tmp 7]) rfl (by simp) (.cell (w.heap.size + 2) 70 #[.bool true, .int .i64 ii, .int .i64 tt, .string TT] (0, 0) _ rfl ((far4 _ (w.heap.size + 3) _ _ _ _ (w.heap.size + 2) (by omega)).trans (blk4 (XZ.out) _ _ _ _)) Try.underlying70 rfl (by kernel_rfl) (.cell (w.heap.size + 3) 30 #[.int .i64 0, .int .i64 0, .slice none 0 0, .string ⟨#[]⟩] (0, 0) _ rfl (blk4 ((far4 _ (w.heap.size + 2) _ _ _ _ (w.heap.size + 3) (by omega)).trans (XU.out)) _ _ _ _) Try.underlying30 rfl (by kernel_rfl) (.tmp (.tmp .nil))))) rfl ?_
        exact ⟨_, by rw [TK2.out]; rfl, by rw [TK2.out]; exact Kd.R_nil _ _ _ _ _, below_f4 (below_f4 HB.out (by omega) _ _ _ _) (by omega) _ _ _ _⟩
end Go.Proofs.Ythjfofgcikfepaa.Q
