
/- slices.Insert of one part ahead of all others. -/
import Derived.Shelf.RegionOpenPlain
import Derived.Lib.Walk
import Derived.Lib.SliceRun
import Derived.Lib.AppendZerosOnto
import Derived.Lib.Overlaps
import Derived.Laws.Externs
import Derived.Laws.CopyRow
import Derived.Laws.NewBlocks
import Derived.Laws.IdiomCopy
import Derived.Test.YtpgbkeaaklglkaaGreatDoorPq
namespace Go.Proofs.YtpgbkeaaklglkaaGreatDoor.Q
open Go.RowKit Go.Proofs.YtpgbkeaaklglkaaGreatDoorW.PrintWords Go.Proofs.YtpgbkeaaklglkaaGreatDoorW.PrintLast Go.Proofs.YtpgbkeaaklglkaaGreatDoorW.PrintMore
set_option linter.unusedVariables false
set_option linter.unusedSimpArgs false
set_option maxHeartbeats 10000000
set_option maxRecDepth 100000
/-! ### slices.Insert of one part ahead of all others -/
theorem run_copy_wide {P : Program} (w : World) (dT sT ty elem : TypeId) (g o dLen dCap : Nat) (a : Addr) (sLen sCap sz k : Nat) (cur : Array Value) (t : TypeId) (cs : List Value)
    (hu : P.underlying dT = some (.slice elem)) (hs : (P.info? elem).map (·.size) = some sz) (hk : Nat.min sLen dLen = k)
    (hg : w.heap[g]? = some (.cells cur t (0, 0))) (hn : cs.length = k * sz)
    (hsrc : ∀ j v, cs[j]? = some v → w.cell? (a.add j) = some v) (hfit : o + cs.length ≤ cur.size) (h1 : ∀ v ∈ cs, v.oneCell' = true) :
    (Builtin.copy_ #[dT, sT] ty #[.slice (some ⟨g, o, none⟩) dLen dCap, .slice (some a) sLen sCap]).run P w =
      .ok (goInt k) (w.setRow g (cur.toList.take o ++ cs ++ cur.toList.drop (o + cs.length)).toArray) := by
  have hl := run_loadCells_list (P := P) w a cs hsrc
  have hst := run_storeCells_at P g o t cs 0 cur w hg (by simpa using hfit) h1
  cases hq : P.info? elem with
  | none => simp [hq] at hs
  | some i =>
    have hi : i.size = sz := by simpa [hq] using hs
    simp [Builtin.copy_, run_underlying hu, Builtin.lenOf, Builtin.firstCells, sizeOf, typeInfo, hq, hi, hk, ← hn, hl, hst]
theorem wp_copy_runT (w : World) {P : Program} {o : Oper} {a : Act} {K : Act → World → Prop} {Q : Exit → Act → World → Prop} (d s : Operand) (t t' : TypeId)
    (ho : o.op = .call { callee := .builtin .copy, args := #[d, s], argTypes := #[t, t'] }) (v u : Value) (hd : a.eval d = v) (hs : a.eval s = u) {v' : Value} {w' : World}
    (hr : (Builtin.copy_ #[t, t'] o.type #[v, u]).run P w = .ok v' w') (h : K (a.put o.dst v') w') : o.wp P a w K Q := by
  unfold Oper.wp execOp
  simp only [ho, resolve, invoke, builtin, Sem.run_bind, Sem.run_pure, Result.andThen_ok, List.map_toArray, List.map_cons, List.map_nil, hd, hs, hr]
  exact h
theorem wpList_copy_runT (w : World) {P : Program} {ops : Array Oper} {rest : List Oper} {o : Oper} {a : Act} {Q : Exit → Act → World → Prop} (hgd : o.guard = none) (d s : Operand) (t t' : TypeId)
    (ho : o.op = .call { callee := .builtin .copy, args := #[d, s], argTypes := #[t, t'] }) (v u : Value) (hd : a.eval d = v) (hs : a.eval s = u) {v' : Value} {w' : World}
    (hr : (Builtin.copy_ #[t, t'] o.type #[v, u]).run P w = .ok v' w') (h : wpList P ops Q rest (a.put o.dst v') w') : wpList P ops Q (o :: rest) a w :=
  wpList_plain hgd fun _ hK => wp_copy_runT w d s t t' ho v u hd hs hr (hK _ _ h)
theorem step_copy_runT {P : Program} {ops : Array Oper} {o : Oper} {a : Act} {w : World} {K : Act → World → Prop} {Q : Exit → Act → World → Prop} {E : Prop}
    (hg : o.guard = none) (d x : Operand) (dT sT : TypeId) (hop : o.op = Op.call { callee := Callee.builtin Builtin.copy, args := #[d, x], argTypes := #[dT, sT] })
    (v u : Value) (hd : a.eval d = v) (hx : a.eval x = u) {v' : Value} {w' : World} (hr : (Builtin.copy_ #[dT, sT] o.type #[v, u]).run P w = .ok v' w') (hK : K (a.put o.dst v') w') :
    if Region.wanted o (yielded ops a.tmps) = true then Oper.wp P o a w K Q else E := by
  have hw : Region.wanted o (yielded ops a.tmps) = true := by simp [Region.wanted, hg]
  rw [if_pos hw]
  unfold Oper.wp
  simp [execOp, hop, resolve, invoke, builtin, hd, hx, hr, Result.andThen]
  exact hK
theorem row_cell {w : World} {g o : Nat} {cur : Array Value} {t : TypeId} {fr : Nat × Nat} (hg : w.heap[g]? = some (.cells cur t fr)) (cs : List Value) (hc : ∀ j v, cs[j]? = some v → cur[o + j]? = some v) : ∀ j v, cs[j]? = some v → w.cell? ((⟨g, o, none⟩ : Addr).add j) = some v := fun j v h => by
  rw [Addr.add_lit]
  simp [World.cell?, hg, hc j v h]
/-- There is room: in place. -/
theorem ins_shift (g n c f fc : Nat) (cur px : Array Value) (w : World) (hn : 1 ≤ n) (hroom : n + 1 ≤ c) (hc63 : c ≤ 9223372036854775807) (hg : w.heap[g]? = some (.cells cur 38 (0, 0))) (hcs : cur.size = c * 4)
    (hf : w.heap[f]? = some (.cells px 38 (0, 0))) (hpx : px.size = 4) (hfg : f ≠ g) (h1 : ∀ v ∈ cur.toList.take (n * 4), v.oneCell' = true) (h1x : ∀ v ∈ px.toList, v.oneCell' = true) :
    Calls Tryz.prog 24 #[.slice (some ⟨g, 0, none⟩) n c, .int .i64 0, .slice (some ⟨f, 0, none⟩) 1 fc] w fun e w' =>
      e = .returned (.slice (some ⟨g, 0, none⟩) (n + 1) c) ∧ w.grownBy w' (some g) ∧ w'.heap.size = w.heap.size ∧ ∃ cur', cur'.size = c * 4 ∧ cur'.toList.take ((n + 1) * 4) = px.toList ++ cur.toList.take (n * 4) ∧ w'.heap[g]? = some (.cells cur' 38 (0, 0)) := by
  have hsz : (Tryz.prog.info? 38).map (·.size) = some 4 := by kernel_rfl
  have hov : ∀ lb cb, (callFunc 53 #[.slice (some ⟨f, 0, none⟩) 1 fc, .slice (some ⟨g, 4, none⟩) lb cb]).run Tryz.prog w = .ok (.value (.bool false)) w := fun lb cb => by
    rw [run_callFunc_extern Tryz.func53 (by kernel_rfl) (by kernel_rfl) (by kernel_rfl) (e := Extern.SlicesOverlaps.overlaps #[30, 30] #[4]) (by kernel_rfl),
      Lib.run_overlaps_apart w 30 4 38 Tryz.underlying30 4 (fun w => by obtain ⟨i, hi, h2⟩ := Option.map_eq_some_iff.1 hsz; simp [sizeOf, typeInfo, hi, h2]) ⟨f, 0, none⟩ ⟨g, 4, none⟩ 1 fc lb cb hfg 38 38 4 (c * 4) (by simp [World.shape?, hf, hpx]) (by simp [World.shape?, hg, hcs]) (by omega) (by simp [World.frozen?, hf]) (by simp [World.frozen?, hf])]
    rfl
  obtain ⟨mid, hmid⟩ : ∃ m : List Value, m = cur.toList.take (n * 4) := ⟨_, rfl⟩
  have hml : mid.length = n * 4 := by rw [hmid, List.length_take, Array.length_toList]; omega
  obtain ⟨r1, hr1⟩ : ∃ r : Array Value, r = (cur.toList.take 4 ++ mid ++ cur.toList.drop (4 + mid.length)).toArray := ⟨_, rfl⟩
  have hr1s : r1.size = c * 4 := by rw [hr1]; simp [hml]; omega
  have hcp1 : ∀ ty dc sc, (Builtin.copy_ #[30, 30] ty #[.slice (some ⟨g, 4, none⟩) n dc, .slice (some ⟨g, 0, none⟩) (n + 1) sc]).run Tryz.prog w.drew = .ok (goInt n) (w.drew.setRow g r1) := fun ty dc sc => by
    rw [hr1]
    exact run_copy_wide w.drew 30 30 ty 38 g 4 n dc ⟨g, 0, none⟩ (n + 1) sc 4 n cur 38 mid Tryz.underlying30 hsz (by simp only [Nat.min_def]; split <;> omega) hg hml
      (row_cell hg mid (fun j v h => by rw [hmid, List.getElem?_take] at h; split at h; · rw [Nat.zero_add, ← Array.getElem?_toList]; exact h
                                        · cases h)) (by omega) (by rw [hmid]; exact h1)
  have hg1 : ∀ W : World, W.heap = (w.drew.setRow g r1).heap → W.heap[g]? = some (.cells r1 38 (0, 0)) := fun W hW => by rw [hW]; exact setRow_heap w.drew g cur r1 38 (0, 0) hg
  obtain ⟨r2, hr2⟩ : ∃ r : Array Value, r = (r1.toList.take 0 ++ px.toList ++ r1.toList.drop (0 + px.toList.length)).toArray := ⟨_, rfl⟩
  have hr2s : r2.size = c * 4 := by rw [hr2]; simp [hr1s, hpx]; omega
  have hcp2 : ∀ W : World, W.heap = (w.drew.setRow g r1).heap → ∀ ty dc, (Builtin.copy_ #[30, 30] ty #[.slice (some ⟨g, 0, none⟩) (n + 1) dc, .slice (some ⟨f, 0, none⟩) 1 fc]).run Tryz.prog W = .ok (goInt 1) (W.setRow g r2) := fun W hW ty dc => by
    rw [hr2]
    have hfW : W.heap[f]? = some (.cells px 38 (0, 0)) := by rw [hW, setRow_other _ _ _ _ hfg]; exact hf
    exact run_copy_wide W 30 30 ty 38 g 0 (n + 1) dc ⟨f, 0, none⟩ 1 fc 4 1 r1 38 px.toList Tryz.underlying30 hsz (by simp only [Nat.min_def]; split <;> omega) (hg1 W hW) (by simp [hpx])
      (row_cell hfW px.toList (fun j v h => by rw [Nat.zero_add, ← Array.getElem?_toList]; exact h)) (by simp [hpx, hr1s]; omega) h1x
  have HE : px.toList ++ mid = r2.toList.take ((n + 1) * 4) := by
    have e1 : r1.toList.drop 4 = mid ++ cur.toList.drop (4 + mid.length) := by
      rw [hr1]
      simp only [List.append_assoc]
      exact List.drop_left' (by rw [List.length_take, Array.length_toList]; omega)
    rw [hr2]
    simp only [List.take_zero, List.nil_append, Nat.zero_add, Array.length_toList, hpx]
    rw [e1, ← List.append_assoc]
    exact (List.take_left' (by rw [List.length_append, hml, Array.length_toList, hpx]; omega)).symm
  have hz2 : ¬ ((0 : Int) = (n : Int)) := by omega
  have hb2 : ¬ (c = 1) := by omega
  have hb4 : ¬ (c = 0) := by omega
  have hw1 : IntKind.i64.wrap ((n : Int) + 1) = (n : Int) + 1 := by rw [IntKind.wrap_i64]; omega
  have hw2 : wrap64 ((n : Int) + 1) = (n : Int) + 1 := IntWalk.wrap64_in _ (by omega)
  have hw3 : IntKind.i64.wrap 1 = 1 := by rw [IntKind.wrap_i64]; rfl
  have ht1 : (1 : Int).toNat = 1 := rfl
  have hb5 : (1 : Int) ≤ (n : Int) + 1 := Int.le_add_of_nonneg_left (Int.natCast_nonneg n)
  have hb6 : (0 : Int) ≤ (n : Int) + 1 := Int.add_nonneg (Int.natCast_nonneg n) (by decide)
  have mixed : Tryz.prog.follows Departure.mixedOrders = true := by kernel_rfl
  have H := Aside0.mk (And.intro hr2s (And.intro HE (And.intro hg1 (And.intro hg hmid))))
  clear HE hr1 hr2 hmid hml
  go_enter Tryz.func24, Tryz.ntmps24
  go_wp2_with (simp only [hov])
  go_region_law_o (refine step_copy_runT rfl _ _ 30 30 rfl _ _ (by simp [Act.eval, Act.put]) (by simp [Act.eval, Act.put]) (hcp1 _ _ _) ?_)
  go_wp2_with (at_builtin; refine wpList_copy_runT _ rfl _ _ 30 30 rfl _ _ rfl rfl (hcp2 _ rfl _ _) ?_)
  go_ret
  obtain ⟨h1, h2, h3, h4, h5⟩ := H.out
  have hG := h3 (w.drew.setRow g r1) rfl
  refine ⟨rfl, ⟨rfl, rfl, rfl, by simp, fun k _ hk => ?_⟩, by simp, r2, h1, by rw [← h2, h5], setRow_heap _ g r1 r2 38 (0, 0) hG⟩
  have hk2 : k ≠ g := fun he => hk (by rw [he])
  rw [setRow_other _ _ _ _ hk2, setRow_other _ _ _ _ hk2]
  rfl
/-- There is no room: a new row. -/
theorem ins_grow (g n f fc : Nat) (cur px : Array Value) (w : World) (hn : 1 ≤ n) (hbig : n ≤ 1000000) (hg : w.heap[g]? = some (.cells cur 38 (0, 0))) (hcs : cur.size = n * 4)
    (hf : w.heap[f]? = some (.cells px 38 (0, 0))) (hpx : px.size = 4) (h1 : ∀ v ∈ cur.toList, v.oneCell' = true) (h1x : ∀ v ∈ px.toList, v.oneCell' = true) :
    Calls Tryz.prog 24 #[.slice (some ⟨g, 0, none⟩) n n, .int .i64 0, .slice (some ⟨f, 0, none⟩) 1 fc] w fun e w' =>
      Below w.heap.size w w' ∧ ∃ G, n + 1 ≤ G ∧ G ≤ maxLen ∧ e = .returned (.slice (some ⟨w.heap.size, 0, none⟩) (n + 1) G) ∧ ∃ cur', cur'.size = G * 4 ∧ cur'.toList.take ((n + 1) * 4) = px.toList ++ cur.toList ∧ w'.heap[w.heap.size]? = some (.cells cur' 38 (0, 0)) := by
  obtain ⟨i0, hi0, hzz⟩ := Option.map_eq_some_iff.1 info38
  simp only [Prod.mk.injEq] at hzz
  obtain ⟨hz0, hzs, hzb⟩ := hzz
  have hsz : (Tryz.prog.info? 38).map (·.size) = some 4 := by rw [hi0]; simp [hzs]
  have mixed : Tryz.prog.follows Departure.mixedOrders = true := by kernel_rfl
  have hgw : g < w.heap.size := blk_lt hg
  have hfw : f < w.heap.size := blk_lt hf
  have hold : (Builtin.firstCells i0.size 0 (.slice (some ⟨g, 0, none⟩) 0 n)).run Tryz.prog w.drew = .ok ([] : List Value).toArray w.drew := by
    exact run_firstCells_some w.drew i0.size 0 ⟨g, 0, none⟩ 0 n [] (by simp) (fun j v hj => by simp at hj)
  have hrz : ∀ ty, (Builtin.append_ #[30, 3] ty #[.slice (some ⟨g, 0, none⟩) 0 n, .int .i64 ((n : Int) + 1)]).run Tryz.prog w =
      .ok (.slice (some ⟨w.heap.size, 0, none⟩) (n + 1) (grownCap w (n + 1) n 38)) (w.drew.alloc (.cells (([] : List Value).toArray ++ Builtin.zeroCells (Value.agg #[.int .i64 0, .int .i64 0, .string ⟨#[]⟩, .slice none 0 0]).cells (n + 1) ++ Builtin.zeroCells (Value.agg #[.int .i64 0, .int .i64 0, .string ⟨#[]⟩, .slice none 0 0]).cells (grownCap w (n + 1) n 38 - (n + 1))) 38)) := fun ty => by
    have h := Lib.run_append_grow_zeros w 30 3 ty 38 i0 _ .i64 .i64 Tryz.underlying30 Tryz.underlying3 hi0 hz0 (some ⟨g, 0, none⟩) 0 n [] hold (n + 1) (by omega) (by omega) (by omega) (by omega) (by rw [hzb]; omega) (by rw [hzb, Nat.zero_add]; exact growslice_fits (by omega) (by omega))
    rw [Nat.zero_add] at h
    rw [show ((n : Int) + 1) = ((n + 1 : Nat) : Int) by omega]
    exact h
  obtain ⟨G, hG⟩ : ∃ G, G = grownCap w (n + 1) n 38 := ⟨_, rfl⟩
  have hGn : n + 1 ≤ G := by rw [hG]; exact grownCap_ge w _ _ _
  have hGm : G ≤ maxLen := by rw [hG]; exact grownCap_le_maxLen w (n + 1) n 38 (by unfold maxLen; omega)
  obtain ⟨ROW, hROW⟩ : ∃ ROW : Array Value, ROW = ([] : List Value).toArray ++ Builtin.zeroCells (Value.agg #[.int .i64 0, .int .i64 0, .string ⟨#[]⟩, .slice none 0 0]).cells (n + 1) ++ Builtin.zeroCells (Value.agg #[.int .i64 0, .int .i64 0, .string ⟨#[]⟩, .slice none 0 0]).cells (G - (n + 1)) := ⟨_, rfl⟩
  rw [← hG, ← hROW] at hrz
  have hRs : ROW.size = G * 4 := by
    rw [hROW]
    simp [Builtin.zeroCells, Value.cells]
    omega
  obtain ⟨N, hN⟩ : ∃ N, N = w.heap.size := ⟨_, rfl⟩
  have hgN : g ≠ N := by omega
  have hfN : f ≠ N := by omega
  obtain ⟨r1, hr1⟩ : ∃ r : Array Value, r = (ROW.toList.take 0 ++ px.toList ++ ROW.toList.drop (0 + px.toList.length)).toArray := ⟨_, rfl⟩
  have hr1s : r1.size = G * 4 := by rw [hr1]; simp [hRs, hpx]; omega
  have hW0 : ∀ W : World, W.heap = (w.alloc (.cells ROW 38)).heap → W.heap[N]? = some (.cells ROW 38 (0, 0)) ∧ W.heap[f]? = some (.cells px 38 (0, 0)) ∧ W.heap[g]? = some (.cells cur 38 (0, 0)) := fun W hW => by
    rw [hW, hN]
    exact ⟨blk_new w _, (Below.heap_alloc w _ f hfw).trans hf, (Below.heap_alloc w _ g hgw).trans hg⟩
  have hcpA : ∀ W : World, W.heap = (w.alloc (.cells ROW 38)).heap → ∀ ty dc, (Builtin.copy_ #[30, 30] ty #[.slice (some ⟨N, 0, none⟩) (n + 1) dc, .slice (some ⟨f, 0, none⟩) 1 fc]).run Tryz.prog W = .ok (goInt 1) (W.setRow N r1) := fun W hW ty dc => by
    obtain ⟨a1, a2, a3⟩ := hW0 W hW
    rw [hr1]
    exact run_copy_wide W 30 30 ty 38 N 0 (n + 1) dc ⟨f, 0, none⟩ 1 fc 4 1 ROW 38 px.toList Tryz.underlying30 hsz (by simp only [Nat.min_def]; split <;> omega) a1 (by simp [hpx])
      (row_cell a2 px.toList (fun j v h => by rw [Nat.zero_add, ← Array.getElem?_toList]; exact h)) (by simp [hpx, hRs]; omega) h1x
  obtain ⟨r2, hr2⟩ : ∃ r : Array Value, r = (r1.toList.take 4 ++ cur.toList ++ r1.toList.drop (4 + cur.toList.length)).toArray := ⟨_, rfl⟩
  have hr2s : r2.size = G * 4 := by rw [hr2]; simp [hr1s, hcs]; omega
  have hW1 : ∀ W : World, W.heap = ((w.alloc (.cells ROW 38)).setRow N r1).heap → W.heap[N]? = some (.cells r1 38 (0, 0)) ∧ W.heap[g]? = some (.cells cur 38 (0, 0)) := fun W hW => by
    rw [hW]
    exact ⟨setRow_heap _ N ROW r1 38 (0, 0) (hW0 _ rfl).1, by rw [setRow_other _ _ _ _ hgN]; exact (hW0 _ rfl).2.2⟩
  have hW2 : ∀ W : World, W.heap = ((w.alloc (.cells ROW 38)).setRow N r1).heap → W.heap[N]? = some (.cells r1 38 (0, 0)) := fun W hW => (hW1 W hW).1
  have hcpB : ∀ W : World, W.heap = ((w.alloc (.cells ROW 38)).setRow N r1).heap → ∀ ty dc sc, (Builtin.copy_ #[30, 30] ty #[.slice (some ⟨N, 4, none⟩) n dc, .slice (some ⟨g, 0, none⟩) n sc]).run Tryz.prog W = .ok (goInt n) (W.setRow N r2) := fun W hW ty dc sc => by
    rw [hr2]
    exact run_copy_wide W 30 30 ty 38 N 4 n dc ⟨g, 0, none⟩ n sc 4 n r1 38 cur.toList Tryz.underlying30 hsz (by simp [Nat.min_def]) (hW1 W hW).1 (by simp [hcs])
      (row_cell (hW1 W hW).2 cur.toList (fun j v h => by rw [Nat.zero_add, ← Array.getElem?_toList]; exact h)) (by simp [hcs, hr1s]; omega) h1
  have HE : px.toList ++ cur.toList = r2.toList.take ((n + 1) * 4) := by
    have e1 : r1.toList.take 4 = px.toList := by
      rw [hr1]
      simp only [List.take_zero, List.nil_append]
      exact List.take_left' (by rw [Array.length_toList, hpx])
    rw [hr2, e1]
    exact (List.take_left' (by simp [hpx, hcs]; omega)).symm
  have hz2 : ¬ ((0 : Int) = (n : Int)) := by omega
  have hz3 : (n : Int) < (n : Int) + 1 := by omega
  have hb2 : ¬ (G = 1) := by omega
  have hb4 : ¬ (G = 0) := by omega
  have hb7 : ¬ (n = 0) := by omega
  have hw1 : IntKind.i64.wrap ((n : Int) + 1) = (n : Int) + 1 := by rw [IntKind.wrap_i64]; omega
  have hw2 : wrap64 ((n : Int) + 1) = (n : Int) + 1 := by rw [← i64_w]; exact hw1
  have hw3 : IntKind.i64.wrap 1 = 1 := by rw [IntKind.wrap_i64]; rfl
  have ht1 : (1 : Int).toNat = 1 := rfl
  have hb5 : (1 : Int) ≤ (n : Int) + 1 := Int.le_add_of_nonneg_left (Int.natCast_nonneg n)
  have hb6 : (0 : Int) ≤ (n : Int) + 1 := Int.add_nonneg (Int.natCast_nonneg n) (by decide)
  rw [← hN] at hrz
  have H := Aside0.mk (And.intro hr2s (And.intro HE (And.intro hGn (And.intro hGm (And.intro hN hW2)))))
  clear HE hr1 hr2 hROW hG hold hN hzs hzb hz0 hi0 hRs hr1s hr2s
  go_enter Tryz.func24, Tryz.ntmps24
  go_wp2_with (first
    | (at_builtin; refine Lib.wpList_append_run _ rfl _ _ _ _ rfl _ _ rfl rfl _ _ (hrz _) ?_)
    | ((with_reducible refine gate_dst (N := 45) rfl ?_); refine HaltP.out ?_))
  refine ⟨?_⟩
  refine wpList_copy_runT _ rfl _ _ 30 30 rfl _ _ rfl rfl (hcpA (w.alloc (.cells ROW 38)).drew rfl _ _) ?_
  go_wp2
  go_region_law_o (refine step_copy_runT rfl _ _ 30 30 rfl (.slice (some ⟨N, 4, none⟩) n (G - 1)) (.slice (some ⟨g, 0, none⟩) n n) (by simp [Act.eval, Act.put]) (by simp [Act.eval, Act.put]) (hcpB ((w.alloc (.cells ROW 38)).drew.setRow N r1).drew rfl 3 (G - 1) n) ?_)
  go_wp2
  go_ret
  obtain ⟨h1, h2, h3, h4, h5, h6⟩ := H.out
  have hG2 := h6 (((w.alloc (.cells ROW 38)).drew.setRow N r1).drew) rfl
  subst h5
  refine ⟨⟨rfl, rfl, rfl, by simp, fun k hk => ?_⟩, G, h3, h4, rfl, r2, h1, h2.symm, setRow_heap _ w.heap.size r1 r2 38 (0, 0) hG2⟩
  have hk2 : k ≠ w.heap.size := by omega
  rw [setRow_other _ _ _ _ hk2]
  show ((w.alloc (.cells ROW 38)).drew.setRow w.heap.size r1).heap[k]? = _
  rw [setRow_other _ _ _ _ hk2]
  exact Below.heap_alloc w _ k hk
end Go.Proofs.YtpgbkeaaklglkaaGreatDoor.Q
namespace Go.Proofs.YtpgbkeaaklglkaaGreatDoor.Q
open Go.RowKit Go.Proofs.YtpgbkeaaklglkaaGreatDoorW.PrintWords Go.Proofs.YtpgbkeaaklglkaaGreatDoorW.PrintLast Go.Proofs.YtpgbkeaaklglkaaGreatDoorW.PrintMore
set_option linter.unusedVariables false
set_option linter.unusedSimpArgs false
set_option maxHeartbeats 10000000
set_option maxRecDepth 100000
/-! ### the same over rows of one's own -/
theorem reps_cells {α : Type} {d : Kd α} {w : World} {base : Nat} {ok : Nat → Prop} {xs : List α} {inner : List Value} (hr : Reps (d.M w base ok) d.sz xs inner) : ∀ u ∈ inner, u.oneCell' = true := by
 intro u hu
 obtain ⟨q, hq, rfl⟩ := List.mem_iff_getElem.1 hu
 have hin := hr.1
 have hs0 : 0 < d.sz := by
  rcases Nat.eq_zero_or_pos d.sz with h | h
  ·rw [h, Nat.mul_zero] at hin; omega
  ·exact h
 have hql : q / d.sz < xs.length := by
  rw [Nat.div_lt_iff_lt_mul hs0, ← hr.1]
  exact hq
 refine d.K_one (d.K_of_M (hr.2 (q / d.sz) _ (List.getElem?_eq_getElem hql))) _ ?_
 rw [List.mem_iff_getElem?]
 refine ⟨q % d.sz, ?_⟩
 rw [List.getElem?_take, if_pos (Nat.mod_lt _ hs0), List.getElem?_drop, Nat.mul_comm, Nat.div_add_mod, List.getElem?_eq_getElem hq]
theorem reps_one {α : Type} {R : α → List Value → Prop} {sz : Nat} {x : α} {cs : List Value} (h : R x cs) (hl : cs.length = sz) : Reps R sz [x] cs := by
 refine ⟨by simp [hl], fun j p hj => ?_⟩
 rcases j with _ | j
 ·simp only [List.getElem?_cons_zero, Option.some.injEq] at hj
  subst hj
  rw [Nat.zero_mul, List.drop_zero, List.take_of_length_le (by omega)]
  exact h
 ·simp at hj
theorem k38_sz : k38.sz = 4 := rfl
theorem ins_R (base : Nat) (ok okp : Nat → Prop) (v : Value) (xs : List S38) (x : S38) (f fc : Nat) (px : Array Value) (w : World) (HO : k38.R 38 w base ok v xs) (hf : w.heap[f]? = some (.cells px 38 (0, 0))) (hpx : px.size = 4)
  (hM : k38.M w base okp x px.toList) (hokp : ∀ k, okp k → ok k ∧ some k ≠ v.ownBlock) (hfresh : ∀ k, w.heap.size ≤ k → ok k) (hfv : some f ≠ v.ownBlock) (hl : xs.length ≤ 1000000) (hb : base ≤ w.heap.size) :
  Calls Tryz.prog 24 #[v, .int .i64 0, .slice (some ⟨f, 0, none⟩) 1 fc] w fun e w' => ∃ v', e = .returned v' ∧ k38.R 38 w' base ok v' (x :: xs) ∧ Below base w w' := by
 have h1x : ∀ u ∈ px.toList, u.oneCell' = true := k38.K_one (k38.K_of_M hM)
 rcases Nat.eq_zero_or_pos xs.length with h0 | hp
 ·obtain rfl : xs = [] := List.eq_nil_of_length_eq_zero h0
  have HR := Aside0.mk HO
  obtain ⟨A, c, rfl⟩ := Kd.R_slice HO
  have HM := Aside0.mk hM
  have HF := Aside0.mk hf
  have HK := Aside0.mk hokp
  have HH := Aside0.mk hfresh
  have HBb := Aside0.mk hb
  have HC1 : Aside0 (ReadsRow (k38.M w base okp) k38.sz w (some ⟨f, 0, none⟩) 1 [x]) := ⟨⟨rfl, by omega, fun _ => ⟨_, rfl, fun j p hj => by
   rcases j with _ | j
   ·simp only [List.getElem?_cons_zero, Option.some.injEq] at hj
    subst hj
    refine ⟨px.toList, by simp [hpx, k38_sz], hM, fun i u hu => ?_⟩
    rw [Nat.zero_mul, Nat.zero_add, Addr.add_lit, Nat.zero_add]
    simp only [World.cell?, hf]
    rw [← Array.getElem?_toList]
    exact hu
   ·simp at hj⟩⟩⟩
  clear HO hf hM hokp hfresh hb hl h0
  go_enter Tryz.func24, Tryz.ntmps24
  cases A with
  | none =>
   go_wp2_with ((with_reducible refine gate_dst (N := 25) rfl ?_); refine HaltP.out ?_)
   refine ⟨?_⟩
   refine Kd.R_append_rows k38 (Rr := k38.M w base okp) (w0 := w) base rfl (.tmp 23) (.tmp 24) 30 38 (.agg #[(.int .i64 0), (.int .i64 0), (.string ⟨#[]⟩), (.slice none 0 0)]) 56 rfl Tryz.underlying30 info38 rfl (by decide) (by decide) (.slice none 0 c) [] [x] (some ⟨f, 0, none⟩) 1 fc ok okp ?e1 ?e2 HR.out HC1.out (fun _ _ h => h) HK.out HH.out (Below.refl _ _) HBb.out (by simp) ?_
   case e1 => rfl
   case e2 => rfl
   intro v1 w1 hR hB _ _
   rw [List.nil_append] at hR
   have R1 := Aside0.mk hR
   have B1 := Aside0.mk hB
   clear hR hB
   go_wp2
   go_ret
   exact ⟨_, rfl, R1.out, B1.out⟩
  | some ad =>
   go_wp2_with ((with_reducible refine gate_dst (N := 25) rfl ?_); refine HaltP.out ?_)
   refine ⟨?_⟩
   refine Kd.R_append_rows k38 (Rr := k38.M w base okp) (w0 := w) base rfl (.tmp 23) (.tmp 24) 30 38 (.agg #[(.int .i64 0), (.int .i64 0), (.string ⟨#[]⟩), (.slice none 0 0)]) 56 rfl Tryz.underlying30 info38 rfl (by decide) (by decide) (.slice (some ad) 0 c) [] [x] (some ⟨f, 0, none⟩) 1 fc ok okp ?e1 ?e2 HR.out HC1.out (fun _ _ h => h) HK.out HH.out (Below.refl _ _) HBb.out (by simp) ?_
   case e1 => rfl
   case e2 => rfl
   intro v1 w1 hR hB _ _
   rw [List.nil_append] at hR
   have R1 := Aside0.mk hR
   have B1 := Aside0.mk hB
   clear hR hB
   go_wp2
   go_ret
   exact ⟨_, rfl, R1.out, B1.out⟩
 ·obtain ⟨hok, inner, hown, hr⟩ := HO
  rcases hown.2 with ⟨hv, h0⟩ | ⟨g, cap, cur, rfl, hbg, hh, hnc, hcm, hcs, htake⟩
  ·omega
  have hfg : f ≠ g := fun he => hfv (by rw [he]; rfl)
  have hks : k38.sz = 4 := rfl
  rw [hks] at hcs htake
  have h1 := reps_cells hr
  have hcap : cap ≤ 9223372036854775807 := by unfold maxLen at hcm; omega
  have hmv : ∀ w' : World, (∀ k, k ≠ g → k < w.heap.size → w'.heap[k]? = w.heap[k]?) → ∀ p c, k38.M w base (fun k => ok k ∧ some k ≠ (Value.slice (some ⟨g, 0, none⟩) xs.length cap).ownBlock) p c → k38.M w' base (fun k => (ok k ∧ k ≠ g) ∧ k < w.heap.size) p c := fun w' hw p c h => by
   have h2 := k38.M_mono (ok' := fun k => (ok k ∧ k ≠ g) ∧ k < w.heap.size) (fun k hk => ⟨⟨hk.1.1, fun he => hk.1.2 (by rw [he]; rfl)⟩, hk.2.2.1⟩) (k38.M_bound h)
   exact k38.M_move (fun k hk => hw k hk.1.2 hk.2) h2
  have hmx : ∀ w' : World, (∀ k, k ≠ g → k < w.heap.size → w'.heap[k]? = w.heap[k]?) → k38.M w' base (fun k => (ok k ∧ k ≠ g) ∧ k < w.heap.size) x px.toList := fun w' hw =>
   hmv w' hw _ _ (k38.M_mono (fun k hk => hokp k hk) hM)
  by_cases hroom : xs.length + 1 ≤ cap
  ·refine (ins_shift g xs.length cap f fc cur px w hp hroom hcap hh hcs hf hpx hfg (by rw [htake]; exact h1) h1x).mono ?_
   rintro e w' ⟨rfl, hgr, hsz, cur', hs2, ht2, hh2⟩
   have hw : ∀ k, k ≠ g → k < w.heap.size → w'.heap[k]? = w.heap[k]? := fun k hk hlt => hgr.block k hlt (fun he => hk (by injection he))
   refine ⟨_, rfl, ⟨fun k hk => hok k (by simpa [Value.ownBlock] using hk), px.toList ++ inner, ⟨?_, .inr ⟨g, cap, cur', by simp, hbg, hh2, by simpa using hroom, hcm, hs2, by rw [hks, List.length_cons, ht2, htake]⟩⟩, ?_⟩, ?_⟩
   ·rw [List.length_append, hown.1, hks, Array.length_toList, hpx, List.length_cons]; omega
   ·exact Kd.reps_append (ps := [x]) (reps_one (k38.M_mono (fun k hk => ⟨hk.1.1, fun he => hk.1.2 (by simpa [Value.ownBlock] using he)⟩) (hmx w' hw)) (by simp [hpx, hks]))
     (hr.imp_ fun p c h => k38.M_mono (fun k hk => ⟨hk.1.1, fun he => hk.1.2 (by simpa [Value.ownBlock] using he)⟩) (hmv w' hw p c h))
   ·exact (Below.refl _ _).grown hgr hb (fun k hk => by injection hk with hk; omega)
  ·obtain rfl : cap = xs.length := by omega
   have hct : cur.toList = inner := by rw [← htake, List.take_of_length_le (by simp [hcs])]
   refine (ins_grow g xs.length f fc cur px w hp hl hh hcs hf hpx (by rw [hct]; exact h1) h1x).mono ?_
   rintro e w' ⟨hbel, G, hG1, hGm, rfl, cur', hs2, ht2, hh2⟩
   have hw : ∀ k, k ≠ g → k < w.heap.size → w'.heap[k]? = w.heap[k]? := fun k _ hlt => hbel.block k hlt
   refine ⟨_, rfl, ⟨fun k hk => hfresh k (by simp [Value.ownBlock] at hk; omega), px.toList ++ inner, ⟨?_, .inr ⟨w.heap.size, G, cur', by simp, hb, hh2, by simpa using hG1, hGm, hs2, by rw [hks, List.length_cons, ht2, hct]⟩⟩, ?_⟩, hbel.mono hb⟩
   ·rw [List.length_append, hown.1, hks, Array.length_toList, hpx, List.length_cons]; omega
   ·exact Kd.reps_append (ps := [x]) (reps_one (k38.M_mono (fun k hk => ⟨hk.1.1, fun he => by simp [Value.ownBlock] at he; omega⟩) (hmx w' hw)) (by simp [hpx, hks]))
     (hr.imp_ fun p c h => k38.M_mono (fun k hk => ⟨hk.1.1, fun he => by simp [Value.ownBlock] at he; omega⟩) (hmv w' hw p c h))
end Go.Proofs.YtpgbkeaaklglkaaGreatDoor.Q