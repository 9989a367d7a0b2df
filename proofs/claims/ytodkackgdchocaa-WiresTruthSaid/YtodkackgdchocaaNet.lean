/- What the calls of package wires do to a net in memory: New, Len, At, Counts, Send, Double, Take, Drop, Heal, each told by a plain function, under no further conditions. -/
import Derived.Test.YtodkackgdchocaaQx1
import Derived.Deep.RegionHeld3
import Derived.Deep.DrawnRows
import Derived.Deep.MidRow
namespace Go.Proofs.Ytodkackgdchocaa.Q
open Go.RowKit Go.Proofs.YtodkackgdchocaaW.PrintWords Go.Proofs.YtodkackgdchocaaW.PrintLast Go.Proofs.YtodkackgdchocaaW.PrintMore
set_option linter.unusedVariables false
set_option linter.unusedSimpArgs false
set_option maxHeartbeats 1000000
set_option maxRecDepth 10000
def pk (p : S60) : List Value := [.int .i64 p.f0, .int .i64 p.f1, .string p.f2]
def pks (l : List S60) : List Value := l.flatMap pk
structure NetS where
  l : List S60
  cut : List Bool
  a : Int
  b : Int
  c : Int
def netCells (v : Value) (n : NetS) : Array Value := (v :: (n.cut.map Value.bool ++ [.int .i64 n.a, .int .i64 n.b, .int .i64 n.c])).toArray
structure IsNet (w : World) (base g : Nat) (v : Value) (n : NetS) : Prop where
  ge : base ≤ g
  blk : w.heap[g]? = some (.cells (netCells v n) 56 (0, 0))
  row : w.ownsRow base 27 3 v n.l.length (pks n.l)
  cl : n.cut.length = 49
  le : n.l.length ≤ 4096
  ok : ∀ p ∈ n.l, 0 ≤ p.f0 ∧ p.f0 < 7 ∧ 0 ≤ p.f1 ∧ p.f1 < 7
def net0 : NetS := ⟨[], List.replicate 49 false, 0, 0, 0⟩
theorem pks_len (l : List S60) : (pks l).length = l.length * 3 := by
  induction l with
  | nil => rfl
  | cons p l ih =>
    have : pks (p :: l) = pk p ++ pks l := rfl
    rw [this, List.length_append, ih]
    simp only [List.length_cons, pk, List.length_nil]
    omega
theorem pks_append (l m : List S60) : pks (l ++ m) = pks l ++ pks m := by simp [pks]
theorem pks_one (l : List S60) (i j : Nat) (hi : i < l.length) (hj : j < 3) : (pks l)[i * 3 + j]? = (pk (l.getD i z60))[j]? := by
  induction l generalizing i with
  | nil => simp at hi
  | cons p l ih =>
    have hc : pks (p :: l) = pk p ++ pks l := rfl
    have hp : (pk p).length = 3 := rfl
    rw [hc]
    cases i with
    | zero =>
      rw [List.getElem?_append_left (by omega)]
      simp
    | succ i =>
      rw [List.getElem?_append_right (by omega), hp, show (i + 1) * 3 + j - 3 = i * 3 + j by omega, ih i (by simpa using hi)]
      simp
theorem pks_oneCell (l : List S60) : ∀ u ∈ pks l, u.oneCell' = true := by
  intro u hu
  simp only [pks, List.mem_flatMap] at hu
  obtain ⟨p, _, hu⟩ := hu
  simp only [pk, List.mem_cons, List.not_mem_nil, or_false] at hu
  rcases hu with rfl | rfl | rfl <;> rfl
/-- What one element of the net's row reads. -/
theorem IsNet.elem {w : World} {base g : Nat} {v : Value} {n : NetS} (h : IsNet w base g v n) {i : Nat} (hi : i < n.l.length) : ∃ b c, v = .slice (some ⟨b, 0, none⟩) n.l.length c ∧ n.l.length ≤ c ∧ ∀ j, j < 3 → w.cell? ⟨b, i * 3 + j, none⟩ = (pk (n.l.getD i z60))[j]? := by
  obtain ⟨b, c, rfl, hb, hlt⟩ := h.row.form (by omega)
  have hle : n.l.length ≤ c := own_le h.row
  refine ⟨b, c, rfl, hle, fun j hj => ?_⟩
  rw [h.row.cellAt (i * 3 + j) (by omega)]
  exact pks_one _ _ _ hi hj
theorem wires_New.calls (base : Nat) (w : World) (hb : base ≤ w.heap.size) :
    Calls Try.prog 9 #[] w fun e w' => e = .returned (.pointer (some ⟨w.heap.size, 0, none⟩)) ∧ IsNet w' base w.heap.size (.slice none 0 0) net0 ∧ Below w.heap.size w w' := by
  go_enter Try.func9, Try.ntmps9
  go_wp2
  go_ret
  exact ⟨rfl, ⟨hb, heap_alloc_new w _, own_nil _ _ _ _, rfl, by decide, fun p hp => by cases hp⟩, (Below.refl _ _).alloc (Nat.le_refl _) _⟩
theorem wires_Len.calls (base g : Nat) (v : Value) (n : NetS) (w : World) (h : IsNet w base g v n) :
    Calls Try.prog 13 #[.pointer (some ⟨g, 0, none⟩)] w fun e w' => e = .returned (.int .i64 n.l.length) ∧ w' = w := by
  obtain ⟨A, c, hv⟩ := own_slice h.row
  have c0 : w.cell? ⟨g, 0, none⟩ = some (.slice A n.l.length c) := (blk_cell h.blk 0).trans (by rw [hv]; rfl)
  clear h hv
  go_enter Try.func13, Try.ntmps13
  go_wp2
  go_ret
  exact ⟨rfl, rfl⟩
theorem cell_a {w : World} {base g : Nat} {v : Value} {n : NetS} (h : IsNet w base g v n) : w.cell? ⟨g, 50, none⟩ = some (.int .i64 n.a) := by
  rw [blk_cell h.blk 50]
  have := h.cl
  simp [netCells, List.getElem?_append_right, this]
theorem cell_b {w : World} {base g : Nat} {v : Value} {n : NetS} (h : IsNet w base g v n) : w.cell? ⟨g, 51, none⟩ = some (.int .i64 n.b) := by
  rw [blk_cell h.blk 51]
  have := h.cl
  simp [netCells, List.getElem?_append_right, this]
theorem cell_c {w : World} {base g : Nat} {v : Value} {n : NetS} (h : IsNet w base g v n) : w.cell? ⟨g, 52, none⟩ = some (.int .i64 n.c) := by
  rw [blk_cell h.blk 52]
  have := h.cl
  simp [netCells, List.getElem?_append_right, this]
theorem cell_cut {w : World} {base g : Nat} {v : Value} {n : NetS} (h : IsNet w base g v n) (i : Nat) (hi : i < 49) : w.cell? ⟨g, 1 + i, none⟩ = some (.bool (n.cut.getD i false)) := by
  rw [blk_cell h.blk (1 + i)]
  have := h.cl
  rw [Nat.add_comm]
  simp [netCells, List.getElem?_append_left, this, hi, List.getD_eq_getElem?_getD]
theorem cell_v {w : World} {base g : Nat} {v : Value} {n : NetS} (h : IsNet w base g v n) : w.cell? ⟨g, 0, none⟩ = some v := (blk_cell h.blk 0).trans rfl
theorem info27 : (Try.prog.info? 27).map (fun i => (i.zero, i.size, i.bytes)) = some (some (.agg #[(.int .i64 0), (.int .i64 0), (.string ⟨#[]⟩)]), 3, 32) := by kernel_rfl
theorem pk_oneCell (p : S60) : ∀ u ∈ pk p, u.oneCell' = true := by
  intro u hu
  simp only [pk, List.mem_cons, List.not_mem_nil, or_false] at hu
  rcases hu with rfl | rfl | rfl <;> rfl
theorem IsNet.below {w w1 : World} {base g : Nat} {v : Value} {n : NetS} (h : IsNet w base g v n) (hb : Below w.heap.size w w1) : IsNet w1 base g v n :=
  ⟨h.ge, blk_below h.blk hb, pw_own_below h.row hb, h.cl, h.le, h.ok⟩
theorem IsNet.alloc {w : World} {base g : Nat} {v : Value} {n : NetS} (h : IsNet w base g v n) (o : Obj) : IsNet (w.alloc o) base g v n := h.below (below_alloc (Below.refl _ _) o)
theorem IsNet.drew {w : World} {base g : Nat} {v : Value} {n : NetS} (h : IsNet w base g v n) : IsNet w.drew base g v n := h.below (below_drew1 (Below.refl _ _))
theorem IsNet.drewN {w : World} {base g : Nat} {v : Value} {n : NetS} (h : IsNet w base g v n) (q : Nat) : IsNet (w.drewN q) base g v n := h.below (pw_below_drewN (Below.refl _ _) q)
theorem IsNet.lt {w : World} {base g : Nat} {v : Value} {n : NetS} (h : IsNet w base g v n) : g < w.heap.size := blk_lt h.blk
theorem IsNet.new {w : World} {base g : Nat} {v : Value} {n : NetS} (h : IsNet w base g v n) {cs : Array Value} {t : TypeId} {j : Nat} {u : Value} : IsNet ((w.alloc (.cells cs t)).setCell ⟨w.heap.size, j, none⟩ u) base g v n :=
  h.below ((below_alloc (Below.refl _ _) _).setCell (Nat.le_refl _) _)
theorem netCells_a (v : Value) (n : NetS) (h : n.cut.length = 49) (x : Int) : (netCells v n).setIfInBounds 50 (.int .i64 x) = netCells v { n with a := x } := by
  simp only [netCells, List.setIfInBounds_toArray, List.set_cons_succ]
  rw [List.set_append_right _ _ (by simp [h])]
  simp [h]
theorem netCells_b (v : Value) (n : NetS) (h : n.cut.length = 49) (x : Int) : (netCells v n).setIfInBounds 51 (.int .i64 x) = netCells v { n with b := x } := by
  simp only [netCells, List.setIfInBounds_toArray, List.set_cons_succ]
  rw [List.set_append_right _ _ (by simp [h])]
  simp [h]
theorem netCells_c (v : Value) (n : NetS) (h : n.cut.length = 49) (x : Int) : (netCells v n).setIfInBounds 52 (.int .i64 x) = netCells v { n with c := x } := by
  simp only [netCells, List.setIfInBounds_toArray, List.set_cons_succ]
  rw [List.set_append_right _ _ (by simp [h])]
  simp [h]
theorem netCells_v (v v' : Value) (n : NetS) : (netCells v n).setIfInBounds 0 v' = netCells v' n := by
  simp [netCells]
theorem netCells_cut (v : Value) (n : NetS) (h : n.cut.length = 49) (i : Nat) (hi : i < 49) (x : Bool) : (netCells v n).setIfInBounds (1 + i) (.bool x) = netCells v { n with cut := n.cut.set i x } := by
  simp only [netCells, List.setIfInBounds_toArray, Nat.add_comm 1 i, List.set_cons_succ]
  rw [List.set_append_left _ _ (by simpa [h] using hi), List.map_set]
theorem IsNet.ne {w : World} {base g : Nat} {v : Value} {n : NetS} (h : IsNet w base g v n) : some g ≠ v.ownBlock := own_ne h.row h.blk (by decide)
theorem IsNet.row_set {w : World} {base g : Nat} {v : Value} {n : NetS} (h : IsNet w base g v n) (j : Nat) (u : Value) : (w.setCell ⟨g, j, none⟩ u).ownsRow base 27 3 v n.l.length (pks n.l) := own_setCell h.row h.ne u
theorem IsNet.setA {w : World} {base g : Nat} {v : Value} {n : NetS} (h : IsNet w base g v n) (x : Int) : IsNet (w.setCell ⟨g, 50, none⟩ (.int .i64 x)) base g v { n with a := x } :=
  ⟨h.ge, blk_put h.blk 50 _ (netCells_a v n h.cl x), h.row_set _ _, h.cl, h.le, h.ok⟩
theorem IsNet.setB {w : World} {base g : Nat} {v : Value} {n : NetS} (h : IsNet w base g v n) (x : Int) : IsNet (w.setCell ⟨g, 51, none⟩ (.int .i64 x)) base g v { n with b := x } :=
  ⟨h.ge, blk_put h.blk 51 _ (netCells_b v n h.cl x), h.row_set _ _, h.cl, h.le, h.ok⟩
theorem IsNet.setC {w : World} {base g : Nat} {v : Value} {n : NetS} (h : IsNet w base g v n) (x : Int) : IsNet (w.setCell ⟨g, 52, none⟩ (.int .i64 x)) base g v { n with c := x } :=
  ⟨h.ge, blk_put h.blk 52 _ (netCells_c v n h.cl x), h.row_set _ _, h.cl, h.le, h.ok⟩
theorem IsNet.setCut {w : World} {base g : Nat} {v : Value} {n : NetS} (h : IsNet w base g v n) (i : Nat) (hi : i < 49) (x : Bool) : IsNet (w.setCell ⟨g, 1 + i, none⟩ (.bool x)) base g v { n with cut := n.cut.set i x } :=
  ⟨h.ge, blk_put h.blk (1 + i) _ (netCells_cut v n h.cl i hi x), h.row_set _ _, by simpa using h.cl, h.le, h.ok⟩
/-- What a call has left of other memory. -/
structure NetKeep (w w' : World) (g : Nat) (v v' : Value) : Prop where
  size : w.heap.size ≤ w'.heap.size
  far : ∀ i, i < w.heap.size → i ≠ g → some i ≠ v.ownBlock → w'.heap[i]? = w.heap[i]?
  at' : v'.ownBlock = v.ownBlock ∨ ∃ b, v'.ownBlock = some b ∧ w.heap.size ≤ b
theorem NetKeep.refl (w : World) (g : Nat) (v : Value) : NetKeep w w g v v := ⟨Nat.le_refl _, fun _ _ _ _ => rfl, .inl rfl⟩
theorem NetKeep.below {w w1 w2 : World} {g : Nat} {v v' : Value} (h : NetKeep w w1 g v v') (hb : Below w1.heap.size w1 w2) : NetKeep w w2 g v v' :=
  ⟨Nat.le_trans h.size hb.size, fun i hi h1 h2 => (hb.block i (Nat.lt_of_lt_of_le hi h.size)).trans (h.far i hi h1 h2), h.at'⟩
theorem NetKeep.set {w w1 : World} {g : Nat} {v v' : Value} (h : NetKeep w w1 g v v') (j : Nat) (u : Value) : NetKeep w (w1.setCell ⟨g, j, none⟩ u) g v v' :=
  ⟨by simpa [World.setCell] using h.size, fun i hi h1 h2 => (Below.heap_setCell w1 _ u i h1).trans (h.far i hi h1 h2), h.at'⟩
theorem NetKeep.trans {w w1 w2 : World} {g : Nat} {v v1 v2 : Value} (h : NetKeep w w1 g v v1) (k : NetKeep w1 w2 g v1 v2) : NetKeep w w2 g v v2 := by
  refine ⟨Nat.le_trans h.size k.size, fun i hi h1 h2 => ?_, ?_⟩
  · refine (k.far i (Nat.lt_of_lt_of_le hi h.size) h1 ?_).trans (h.far i hi h1 h2)
    rcases h.at' with e | ⟨b, e, hb⟩
    · rw [e]; exact h2
    · rw [e]; intro hh; injection hh with hh; omega
  · rcases k.at' with e | ⟨b, e, hb⟩
    · rw [e]; exact h.at'
    · exact .inr ⟨b, e, Nat.le_trans h.size hb⟩
theorem NetKeep.alloc {w w1 : World} {g : Nat} {v v' : Value} (h : NetKeep w w1 g v v') (o : Obj) : NetKeep w (w1.alloc o) g v v' := h.below (below_alloc (Below.refl _ _) o)
theorem NetKeep.drew {w w1 : World} {g : Nat} {v v' : Value} (h : NetKeep w w1 g v v') : NetKeep w w1.drew g v v' := h.below (below_drew1 (Below.refl _ _))
theorem NetKeep.drewN {w w1 : World} {g : Nat} {v v' : Value} (h : NetKeep w w1 g v v') (q : Nat) : NetKeep w (w1.drewN q) g v v' := h.below (pw_below_drewN (Below.refl _ _) q)
theorem NetKeep.grown {w w1 w2 : World} {g : Nat} {v v1 v2 : Value} (h : NetKeep w w1 g v v1) (hg : w1.grownBy w2 v1.ownBlock) (ha : v2.ownBlock = v1.ownBlock ∨ ∃ b, v2.ownBlock = some b ∧ w1.heap.size ≤ b) : NetKeep w w2 g v v2 :=
  h.trans ⟨hg.size, fun i hi _ h2 => hg.block i hi h2, ha⟩
theorem IsNet.setRow {w : World} {base g : Nat} {v v' : Value} {n : NetS} {l : List S60} (hge : base ≤ g) (hblk : w.heap[g]? = some (.cells (netCells v n) 56 (0, 0))) (hown : w.ownsRow base 27 3 v' l.length (pks l)) (hcl : n.cut.length = 49) (hle : l.length ≤ 4096) (hok : ∀ p ∈ l, 0 ≤ p.f0 ∧ p.f0 < 7 ∧ 0 ≤ p.f1 ∧ p.f1 < 7) :
    IsNet (w.setCell ⟨g, 0, none⟩ v') base g v' { n with l := l } :=
  ⟨hge, blk_put hblk 0 _ (netCells_v v v' n), own_setCell hown (own_ne hown hblk (by decide)) v', hcl, hle, hok⟩
theorem cell_b_of {w : World} {g : Nat} {v : Value} {n : NetS} (h : w.heap[g]? = some (.cells (netCells v n) 56 (0, 0))) (hc : n.cut.length = 49) : w.cell? ⟨g, 51, none⟩ = some (.int .i64 n.b) := by
  rw [blk_cell h 51]
  simp [netCells, hc]
theorem cell_c_of {w : World} {g : Nat} {v : Value} {n : NetS} (h : w.heap[g]? = some (.cells (netCells v n) 56 (0, 0))) (hc : n.cut.length = 49) : w.cell? ⟨g, 52, none⟩ = some (.int .i64 n.c) := by
  rw [blk_cell h 52]
  simp [netCells, hc]
theorem IsNet.setFar {w : World} {base g : Nat} {v : Value} {n : NetS} (h : IsNet w base g v n) {r : Nat} (h1 : g ≠ r) (h2 : v.ownBlock ≠ some r) (j : Nat) (u : Value) : IsNet (w.setCell ⟨r, j, none⟩ u) base g v n :=
  ⟨h.ge, (Below.heap_setCell w ⟨r, j, none⟩ u g h1).trans h.blk, own_setCell h.row (Ne.symm h2) u, h.cl, h.le, h.ok⟩
theorem NetKeep.setNew {w w1 : World} {g : Nat} {v v' : Value} (h : NetKeep w w1 g v v') {r : Nat} (hr : w.heap.size ≤ r) (j : Nat) (u : Value) : NetKeep w (w1.setCell ⟨r, j, none⟩ u) g v v' :=
  ⟨by simpa [World.setCell] using h.size, fun i hi h1 h2 => (Below.heap_setCell w1 _ u i (by show i ≠ r; omega)).trans (h.far i hi h1 h2), h.at'⟩
theorem erase_le {l : List S60} (h : l.length ≤ 4096) (k : Nat) : (l.eraseIdx k).length ≤ 4096 := Nat.le_trans (List.length_eraseIdx_le l k) h
theorem own_ne_of {b r n c : Nat} (h : b < r) : (Value.slice (some ⟨b, 0, none⟩) n c).ownBlock ≠ some r := by
  intro hh
  have : b = r := by simpa [Value.ownBlock] using hh
  omega
theorem NetKeep.sets {w : World} {g : Nat} {v v' : Value} : ∀ (vs : List Value) (o : Nat) {w1 : World}, NetKeep w w1 g v v' → NetKeep w (w1.setCells g o vs) g v v'
  | [], _, _, h => h
  | u :: vs, o, _, h => NetKeep.sets vs (o + 1) (h.set o u)
theorem below_sets {w0 : World} {g : Nat} (hg : w0.heap.size ≤ g) : ∀ (vs : List Value) (o : Nat) {w : World}, Below w0.heap.size w0 w → Below w0.heap.size w0 (w.setCells g o vs)
  | [], _, _, h => h
  | u :: vs, o, _, h => below_sets hg vs (o + 1) (h.setCell hg u)
theorem own_lt' {w : World} {base : Nat} {e : TypeId} {size n : Nat} {v : Value} {xs : List Value} (h : w.ownsRow base e size v n xs) : ∀ k, v.ownBlock = some k → base ≤ k := own_base h
theorem wires_Counts.calls (base g : Nat) (v : Value) (n : NetS) (w : World) (h : IsNet w base g v n) :
    Calls Try.prog 19 #[.pointer (some ⟨g, 0, none⟩)] w fun e w' => e = .returned (.tuple #[.int .i64 n.a, .int .i64 n.b, .int .i64 n.c]) ∧ ∃ q, w' = w.drewN q := by
  have ca := cell_a h
  have cb := cell_b h
  have cc := cell_c h
  clear h
  go_enter Try.func19, Try.ntmps19
  go_wp2
  go_region_held3 (fun w' => w'.cell? ⟨g, 50, none⟩ = some (.int .i64 n.a) ∧ w'.cell? ⟨g, 51, none⟩ = some (.int .i64 n.b) ∧ w'.cell? ⟨g, 52, none⟩ = some (.int .i64 n.c)) (go_keep) (fail)
  all_goals go_wp2
  refine bodyPost_ret (results_tmp3 rfl _ _ _) rfl ?_
  exact ⟨rfl, 1, rfl⟩
theorem wires_At.calls (base g : Nat) (v : Value) (n : NetS) (i : Int) (w : World) (h : IsNet w base g v n) (h0 : 0 ≤ i) (h1 : i < n.l.length) (p : S60) (hp : p = n.l.getD i.toNat z60) :
    Calls Try.prog 20 #[.pointer (some ⟨g, 0, none⟩), .int .i64 i] w fun e w' => e = .returned (.tuple #[.agg #[.int .i64 p.f0, .int .i64 p.f1, .string p.f2], .bool true]) ∧ Below w.heap.size w w' := by
  obtain ⟨b, c, rfl, hle, hc⟩ := h.elem (i := i.toNat) (by omega)
  have H := Aside0.mk h
  have c0 := cell_v h
  rw [← hp] at hc
  have e0 : w.cell? ⟨b, i.toNat * 3, none⟩ = some (.int .i64 p.f0) := hc 0 (by omega)
  have e1 : w.cell? ⟨b, i.toNat * 3 + 1, none⟩ = some (.int .i64 p.f1) := hc 1 (by omega)
  have e2 : w.cell? ⟨b, i.toNat * 3 + 2, none⟩ = some (.string p.f2) := hc 2 (by omega)
  have d0 : decide (i < 0) = false := decide_eq_false (by omega)
  have d1 : decide ((n.l.length : Int) ≤ i) = false := decide_eq_false (by omega)
  have hne : b ≠ w.heap.size := fun hh => by have := World.block_lt_of_cell? w _ e0; simp at this; omega
  have hgl : g < w.heap.size := h.lt
  have hbl : b < w.heap.size := World.block_lt_of_cell? w _ e0
  have hgn : g ≠ w.heap.size := by omega
  clear hc h hp
  go_enter Try.func20, Try.ntmps20
  go_wp2_with (first | (go_at_call 13; (with_reducible refine (wires_Len.calls _ _ _ _ _ (H.out.alloc _)).mono ?_); rintro e w' ⟨rfl, rfl⟩))
  refine bodyPost_ret (results_ct rfl _ _ w.heap.size 27 (pk p).toArray (0, 0) _ rfl (heap_alloc_new w _) Try.underlying27 rfl (by kernel_rfl)) rfl ?_
  exact ⟨rfl, (Below.refl _ _).alloc (Nat.le_refl _) _⟩
theorem wires_At.out (base g : Nat) (v : Value) (n : NetS) (i : Int) (w : World) (h : IsNet w base g v n) (h0 : i < 0 ∨ (n.l.length : Int) ≤ i) :
    Calls Try.prog 20 #[.pointer (some ⟨g, 0, none⟩), .int .i64 i] w fun e w' => e = .returned (.tuple #[.agg #[.int .i64 0, .int .i64 0, .string ⟨#[]⟩], .bool false]) ∧ Below w.heap.size w w' := by
  have H := Aside0.mk h
  have c0 := cell_v h
  have hgl : g < w.heap.size := h.lt
  have hgn : g ≠ w.heap.size := by omega
  clear h
  by_cases c : i < 0
  · have d0 : decide (i < 0) = true := decide_eq_true c
    clear c h0
    go_enter Try.func20, Try.ntmps20
    go_wp2
    refine bodyPost_ret (results_ct rfl _ _ w.heap.size 27 (pk z60).toArray (0, 0) _ rfl (heap_alloc_new w _) Try.underlying27 rfl (by kernel_rfl)) rfl ?_
    exact ⟨rfl, (Below.refl _ _).alloc (Nat.le_refl _) _⟩
  · have d0 : decide (i < 0) = false := decide_eq_false c
    have d1 : decide ((n.l.length : Int) ≤ i) = true := decide_eq_true (by omega)
    clear c h0
    go_enter Try.func20, Try.ntmps20
    go_wp2_with (first | (go_at_call 13; (with_reducible refine (wires_Len.calls _ _ _ _ _ (H.out.alloc _)).mono ?_); rintro e w' ⟨rfl, rfl⟩))
    refine bodyPost_ret (results_ct rfl _ _ w.heap.size 27 (pk z60).toArray (0, 0) _ rfl (heap_alloc_new w _) Try.underlying27 rfl (by kernel_rfl)) rfl ?_
    exact ⟨rfl, (Below.refl _ _).alloc (Nat.le_refl _) _⟩
theorem wires_two.of (a b : Int) : wires_two.f a b = some (decide (0 ≤ a ∧ a < 7 ∧ 0 ≤ b ∧ b < 7 ∧ a ≠ b)) := by
  unfold wires_two.f
  by_cases h1 : a ≥ 0
  · by_cases h2 : a < 7
    · by_cases h3 : b ≥ 0
      · by_cases h4 : b < 7
        · rw [if_pos h1, if_pos h2, if_pos h3, if_pos h4]
          by_cases h5 : a = b
          · subst h5; simp
          · simp [h1, h2, h3, h4, h5]
        · rw [if_pos h1, if_pos h2, if_pos h3, if_neg h4]; simp [h4]
      · rw [if_pos h1, if_pos h2, if_neg h3]; simp; omega
    · rw [if_pos h1, if_neg h2]; simp [h2]
  · rw [if_neg h1]; simp; omega
def NetS.isCut (n : NetS) (i j : Int) : Bool := n.cut.getD (i.toNat * 7 + j.toNat) false
/-- Send, told plainly. -/
def NetS.send (n : NetS) (p : S60) : NetS × Bool :=
  if 0 ≤ p.f0 ∧ p.f0 < 7 ∧ 0 ≤ p.f1 ∧ p.f1 < 7 ∧ p.f0 ≠ p.f1 then
    if n.isCut p.f0 p.f1 = true ∨ 4096 ≤ n.l.length then ({ n with a := wrap64 (n.a + 1), c := wrap64 (n.c + 1) }, false)
    else ({ n with l := n.l ++ [p], a := wrap64 (n.a + 1) }, true)
  else ({ n with a := wrap64 (n.a + 1), c := wrap64 (n.c + 1) }, false)
theorem wires_Send.bad (w0 : World) (g : Nat) (v : Value) (n : NetS) (p : S60) (w : World) (h : IsNet w w0.heap.size g v n) (hB : Below w0.heap.size w0 w) (hd : ¬ (0 ≤ p.f0 ∧ p.f0 < 7 ∧ 0 ≤ p.f1 ∧ p.f1 < 7 ∧ p.f0 ≠ p.f1)) :
    Calls Try.prog 11 #[.pointer (some ⟨g, 0, none⟩), .agg #[.int .i64 p.f0, .int .i64 p.f1, .string p.f2]] w fun e w' => e = .returned (.bool false) ∧ IsNet w' w0.heap.size g v { n with a := wrap64 (n.a + 1), c := wrap64 (n.c + 1) } ∧ Below w0.heap.size w0 w' ∧ NetKeep w w' g v v := by
  obtain ⟨Av, cv, rfl⟩ := own_slice h.row
  have c0 := cell_v h
  have ca := cell_a h
  have hgl : g < w.heap.size := h.lt
  have hgn : g ≠ w.heap.size := by omega
  have hf0 := blk_frozen h.blk 50
  have A := Aside0.mk (wires_two.of p.f0 p.f1)
  obtain ⟨w1, hw1⟩ : ∃ w1, w1 = (w.setCell ⟨g, 50, none⟩ (.int .i64 (wrap64 (n.a + 1)))).alloc (.cells #[.int .i64 p.f0, .int .i64 p.f1, .string p.f2] 27) := ⟨_, rfl⟩
  obtain ⟨gb, hgb⟩ : ∃ gb, gb = w.heap.size := ⟨_, rfl⟩
  have H1 : Aside0 (IsNet w1 w0.heap.size g (.slice Av n.l.length cv) { n with a := wrap64 (n.a + 1) }) := ⟨by rw [hw1]; exact (h.setA _).alloc _⟩
  have hbx : w1.heap[gb]? = some (.cells (pk p).toArray 27 (0, 0)) := by rw [hw1, hgb, show w.heap.size = (w.setCell ⟨g, 50, none⟩ (.int .i64 (wrap64 (n.a + 1)))).heap.size by simp]; exact heap_alloc_new _ _
  have HK : Aside0 (NetKeep w w1 g (.slice Av n.l.length cv) (.slice Av n.l.length cv)) := ⟨by rw [hw1]; exact ((NetKeep.refl w g _).set _ _).alloc _⟩
  have HB1 : Aside0 (Below w0.heap.size w0 w1) := ⟨by rw [hw1]; exact (hB.setCell h.ge _).alloc (by simpa using hB.size) _⟩
  have cx0 : w1.cell? ⟨gb, 0, none⟩ = some (.int .i64 p.f0) := (blk_cell hbx 0).trans rfl
  have cx1 : w1.cell? ⟨gb, 1, none⟩ = some (.int .i64 p.f1) := (blk_cell hbx 1).trans rfl
  have cx2 : w1.cell? ⟨gb, 2, none⟩ = some (.string p.f2) := (blk_cell hbx 2).trans rfl
  have cc1 := cell_c H1.out
  have hf2 := blk_frozen H1.out.blk 52
  rw [decide_eq_false hd] at A
  clear h hB hd
  go_enter Try.func11, Try.ntmps11
  go_upto_region 4 with (fail)
  rw [← hw1, ← hgb]
  clear hw1 hgb c0 ca hf0 hgn hgl hbx
  go_quiet (first | (go_at_call 24; exact Calls.quiet_of ((wires_two.calls _ _ _ _ A.out).mono (fun e w' h => ⟨h.1, h.2.out⟩))))
  go_wp2
  go_ret
  exact ⟨rfl, (H1.out.drewN _).setC _, (pw_below_drewN HB1.out _).setCell H1.out.ge _, (HK.out.drewN _).set _ _⟩

theorem wires_Send.cut (w0 : World) (g : Nat) (v : Value) (n : NetS) (p : S60) (w : World) (h : IsNet w w0.heap.size g v n) (hB : Below w0.heap.size w0 w) (hd : 0 ≤ p.f0 ∧ p.f0 < 7 ∧ 0 ≤ p.f1 ∧ p.f1 < 7 ∧ p.f0 ≠ p.f1) (hc : n.isCut p.f0 p.f1 = true) :
    Calls Try.prog 11 #[.pointer (some ⟨g, 0, none⟩), .agg #[.int .i64 p.f0, .int .i64 p.f1, .string p.f2]] w fun e w' => e = .returned (.bool false) ∧ IsNet w' w0.heap.size g v { n with a := wrap64 (n.a + 1), c := wrap64 (n.c + 1) } ∧ Below w0.heap.size w0 w' ∧ NetKeep w w' g v v := by
  obtain ⟨Av, cv, rfl⟩ := own_slice h.row
  have c0 := cell_v h
  have ca := cell_a h
  have hgl : g < w.heap.size := h.lt
  have hgn : g ≠ w.heap.size := by omega
  have hf0 := blk_frozen h.blk 50
  have A := Aside0.mk (wires_two.of p.f0 p.f1)
  obtain ⟨w1, hw1⟩ : ∃ w1, w1 = (w.setCell ⟨g, 50, none⟩ (.int .i64 (wrap64 (n.a + 1)))).alloc (.cells #[.int .i64 p.f0, .int .i64 p.f1, .string p.f2] 27) := ⟨_, rfl⟩
  obtain ⟨gb, hgb⟩ : ∃ gb, gb = w.heap.size := ⟨_, rfl⟩
  have H1 : Aside0 (IsNet w1 w0.heap.size g (.slice Av n.l.length cv) { n with a := wrap64 (n.a + 1) }) := ⟨by rw [hw1]; exact (h.setA _).alloc _⟩
  have hbx : w1.heap[gb]? = some (.cells (pk p).toArray 27 (0, 0)) := by rw [hw1, hgb, show w.heap.size = (w.setCell ⟨g, 50, none⟩ (.int .i64 (wrap64 (n.a + 1)))).heap.size by simp]; exact heap_alloc_new _ _
  have HK : Aside0 (NetKeep w w1 g (.slice Av n.l.length cv) (.slice Av n.l.length cv)) := ⟨by rw [hw1]; exact ((NetKeep.refl w g _).set _ _).alloc _⟩
  have HB1 : Aside0 (Below w0.heap.size w0 w1) := ⟨by rw [hw1]; exact (hB.setCell h.ge _).alloc (by simpa using hB.size) _⟩
  have cx0 : w1.cell? ⟨gb, 0, none⟩ = some (.int .i64 p.f0) := (blk_cell hbx 0).trans rfl
  have cx1 : w1.cell? ⟨gb, 1, none⟩ = some (.int .i64 p.f1) := (blk_cell hbx 1).trans rfl
  have cx2 : w1.cell? ⟨gb, 2, none⟩ = some (.string p.f2) := (blk_cell hbx 2).trans rfl
  have cc1 := cell_c H1.out
  have hf2 := blk_frozen H1.out.blk 52
  rw [decide_eq_true hd] at A
  obtain ⟨d0, d1, d2, d3, _⟩ := hd
  have Hp : Aside0 (0 ≤ p.f0 ∧ p.f0 < 7 ∧ 0 ≤ p.f1 ∧ p.f1 < 7) := ⟨d0, d1, d2, d3⟩
  have hlt : p.f0.toNat * 7 + p.f1.toNat < 49 := by omega
  have cq : w1.cell? ⟨g, 1 + p.f0.toNat * 7 + p.f1.toNat, none⟩ = some (.bool (n.isCut p.f0 p.f1)) := by
    rw [show 1 + p.f0.toNat * 7 + p.f1.toNat = 1 + (p.f0.toNat * 7 + p.f1.toNat) by omega]
    exact cell_cut H1.out _ hlt
  rw [hc] at cq
  clear h hB hc hlt
  go_enter Try.func11, Try.ntmps11
  go_upto_region 4 with (fail)
  rw [← hw1, ← hgb]
  clear hw1 hgb c0 ca hf0 hgn hgl hbx
  go_quiet (first | (go_at_call 24; exact Calls.quiet_of ((wires_two.calls _ _ _ _ A.out).mono (fun e w' h => ⟨h.1, h.2.out⟩))))
  go_wp2
  go_ret
  exact ⟨rfl, (H1.out.drewN _).setC _, (pw_below_drewN HB1.out _).setCell H1.out.ge _, (HK.out.drewN _).set _ _⟩

theorem wires_Send.full (w0 : World) (g : Nat) (v : Value) (n : NetS) (p : S60) (w : World) (h : IsNet w w0.heap.size g v n) (hB : Below w0.heap.size w0 w) (hd : 0 ≤ p.f0 ∧ p.f0 < 7 ∧ 0 ≤ p.f1 ∧ p.f1 < 7 ∧ p.f0 ≠ p.f1) (hc : n.isCut p.f0 p.f1 = false) (hl : 4096 ≤ n.l.length) :
    Calls Try.prog 11 #[.pointer (some ⟨g, 0, none⟩), .agg #[.int .i64 p.f0, .int .i64 p.f1, .string p.f2]] w fun e w' => e = .returned (.bool false) ∧ IsNet w' w0.heap.size g v { n with a := wrap64 (n.a + 1), c := wrap64 (n.c + 1) } ∧ Below w0.heap.size w0 w' ∧ NetKeep w w' g v v := by
  obtain ⟨Av, cv, rfl⟩ := own_slice h.row
  have c0 := cell_v h
  have ca := cell_a h
  have hgl : g < w.heap.size := h.lt
  have hgn : g ≠ w.heap.size := by omega
  have hf0 := blk_frozen h.blk 50
  have A := Aside0.mk (wires_two.of p.f0 p.f1)
  obtain ⟨w1, hw1⟩ : ∃ w1, w1 = (w.setCell ⟨g, 50, none⟩ (.int .i64 (wrap64 (n.a + 1)))).alloc (.cells #[.int .i64 p.f0, .int .i64 p.f1, .string p.f2] 27) := ⟨_, rfl⟩
  obtain ⟨gb, hgb⟩ : ∃ gb, gb = w.heap.size := ⟨_, rfl⟩
  have H1 : Aside0 (IsNet w1 w0.heap.size g (.slice Av n.l.length cv) { n with a := wrap64 (n.a + 1) }) := ⟨by rw [hw1]; exact (h.setA _).alloc _⟩
  have hbx : w1.heap[gb]? = some (.cells (pk p).toArray 27 (0, 0)) := by rw [hw1, hgb, show w.heap.size = (w.setCell ⟨g, 50, none⟩ (.int .i64 (wrap64 (n.a + 1)))).heap.size by simp]; exact heap_alloc_new _ _
  have HK : Aside0 (NetKeep w w1 g (.slice Av n.l.length cv) (.slice Av n.l.length cv)) := ⟨by rw [hw1]; exact ((NetKeep.refl w g _).set _ _).alloc _⟩
  have HB1 : Aside0 (Below w0.heap.size w0 w1) := ⟨by rw [hw1]; exact (hB.setCell h.ge _).alloc (by simpa using hB.size) _⟩
  have cx0 : w1.cell? ⟨gb, 0, none⟩ = some (.int .i64 p.f0) := (blk_cell hbx 0).trans rfl
  have cx1 : w1.cell? ⟨gb, 1, none⟩ = some (.int .i64 p.f1) := (blk_cell hbx 1).trans rfl
  have cx2 : w1.cell? ⟨gb, 2, none⟩ = some (.string p.f2) := (blk_cell hbx 2).trans rfl
  have cc1 := cell_c H1.out
  have hf2 := blk_frozen H1.out.blk 52
  rw [decide_eq_true hd] at A
  obtain ⟨d0, d1, d2, d3, _⟩ := hd
  have Hp : Aside0 (0 ≤ p.f0 ∧ p.f0 < 7 ∧ 0 ≤ p.f1 ∧ p.f1 < 7) := ⟨d0, d1, d2, d3⟩
  have hlt : p.f0.toNat * 7 + p.f1.toNat < 49 := by omega
  have cq : w1.cell? ⟨g, 1 + p.f0.toNat * 7 + p.f1.toNat, none⟩ = some (.bool (n.isCut p.f0 p.f1)) := by
    rw [show 1 + p.f0.toNat * 7 + p.f1.toNat = 1 + (p.f0.toNat * 7 + p.f1.toNat) by omega]
    exact cell_cut H1.out _ hlt
  rw [hc] at cq
  have dl : decide ((4096 : Int) ≤ (n.l.length : Int)) = true := decide_eq_true (by omega)
  have cv0 : w1.cell? ⟨g, 0, none⟩ = some (.slice Av n.l.length cv) := cell_v H1.out
  clear h hB hc hlt hl
  go_enter Try.func11, Try.ntmps11
  go_upto_region 4 with (fail)
  rw [← hw1, ← hgb]
  clear hw1 hgb c0 ca hf0 hgn hgl hbx
  go_quiet (first | (go_at_call 24; exact Calls.quiet_of ((wires_two.calls _ _ _ _ A.out).mono (fun e w' h => ⟨h.1, h.2.out⟩))))
  go_wp2
  go_ret
  exact ⟨rfl, (H1.out.drewN _).setC _, (pw_below_drewN HB1.out _).setCell H1.out.ge _, (HK.out.drewN _).set _ _⟩

theorem wires_Send.ok (w0 : World) (g : Nat) (v : Value) (n : NetS) (p : S60) (w : World) (h : IsNet w w0.heap.size g v n) (hB : Below w0.heap.size w0 w) (hd : 0 ≤ p.f0 ∧ p.f0 < 7 ∧ 0 ≤ p.f1 ∧ p.f1 < 7 ∧ p.f0 ≠ p.f1) (hc : n.isCut p.f0 p.f1 = false) (hl : n.l.length < 4096) :
    Calls Try.prog 11 #[.pointer (some ⟨g, 0, none⟩), .agg #[.int .i64 p.f0, .int .i64 p.f1, .string p.f2]] w fun e w' => ∃ v', e = .returned (.bool true) ∧ IsNet w' w0.heap.size g v' { n with l := n.l ++ [p], a := wrap64 (n.a + 1) } ∧ Below w0.heap.size w0 w' ∧ NetKeep w w' g v v' := by
  obtain ⟨Av, cv, rfl⟩ := own_slice h.row
  have c0 := cell_v h
  have ca := cell_a h
  have hgl : g < w.heap.size := h.lt
  have hgn : g ≠ w.heap.size := by omega
  have hf0 := blk_frozen h.blk 50
  have A := Aside0.mk (wires_two.of p.f0 p.f1)
  obtain ⟨w1, hw1⟩ : ∃ w1, w1 = (w.setCell ⟨g, 50, none⟩ (.int .i64 (wrap64 (n.a + 1)))).alloc (.cells #[.int .i64 p.f0, .int .i64 p.f1, .string p.f2] 27) := ⟨_, rfl⟩
  obtain ⟨gb, hgb⟩ : ∃ gb, gb = w.heap.size := ⟨_, rfl⟩
  have H1 : Aside0 (IsNet w1 w0.heap.size g (.slice Av n.l.length cv) { n with a := wrap64 (n.a + 1) }) := ⟨by rw [hw1]; exact (h.setA _).alloc _⟩
  have hbx : w1.heap[gb]? = some (.cells (pk p).toArray 27 (0, 0)) := by rw [hw1, hgb, show w.heap.size = (w.setCell ⟨g, 50, none⟩ (.int .i64 (wrap64 (n.a + 1)))).heap.size by simp]; exact heap_alloc_new _ _
  have HK : Aside0 (NetKeep w w1 g (.slice Av n.l.length cv) (.slice Av n.l.length cv)) := ⟨by rw [hw1]; exact ((NetKeep.refl w g _).set _ _).alloc _⟩
  have HB1 : Aside0 (Below w0.heap.size w0 w1) := ⟨by rw [hw1]; exact (hB.setCell h.ge _).alloc (by simpa using hB.size) _⟩
  have cx0 : w1.cell? ⟨gb, 0, none⟩ = some (.int .i64 p.f0) := (blk_cell hbx 0).trans rfl
  have cx1 : w1.cell? ⟨gb, 1, none⟩ = some (.int .i64 p.f1) := (blk_cell hbx 1).trans rfl
  have cx2 : w1.cell? ⟨gb, 2, none⟩ = some (.string p.f2) := (blk_cell hbx 2).trans rfl
  rw [decide_eq_true hd] at A
  obtain ⟨d0, d1, d2, d3, _⟩ := hd
  have Hp : Aside0 (0 ≤ p.f0 ∧ p.f0 < 7 ∧ 0 ≤ p.f1 ∧ p.f1 < 7) := ⟨d0, d1, d2, d3⟩
  have hlt : p.f0.toNat * 7 + p.f1.toNat < 49 := by omega
  have cq : w1.cell? ⟨g, 1 + p.f0.toNat * 7 + p.f1.toNat, none⟩ = some (.bool (n.isCut p.f0 p.f1)) := by
    rw [show 1 + p.f0.toNat * 7 + p.f1.toNat = 1 + (p.f0.toNat * 7 + p.f1.toNat) by omega]
    exact cell_cut H1.out _ hlt
  rw [hc] at cq
  have dl : decide ((4096 : Int) ≤ (n.l.length : Int)) = false := decide_eq_false (by omega)
  have cv0 : w1.cell? ⟨g, 0, none⟩ = some (.slice Av n.l.length cv) := cell_v H1.out
  have Hl := Aside0.mk hl
  have hneb : Aside0 (some gb ≠ (Value.slice Av n.l.length cv).ownBlock) := ⟨fun hh => by have := own_lt h.row gb hh.symm; omega⟩
  clear h hB hc hlt hl
  go_enter Try.func11, Try.ntmps11
  go_upto_region 4 with (fail)
  rw [← hw1, ← hgb]
  clear hw1 hgb c0 ca hf0 hgn hgl
  go_quiet (first | (go_at_call 24; exact Calls.quiet_of ((wires_two.calls _ _ _ _ A.out).mono (fun e w' h => ⟨h.1, h.2.out⟩))))
  go_upto_region 7 with (fail)
  obtain ⟨i27, hi, hz0, hz1, hz2⟩ := info_parts info27
  have HZ : Aside0 (IsNet (w1.drewN nq) w0.heap.size g (.slice Av n.l.length cv) { n with a := wrap64 (n.a + 1) }) := ⟨H1.out.drewN nq⟩
  have HKz : Aside0 (NetKeep w (w1.drewN nq) g (.slice Av n.l.length cv) (.slice Av n.l.length cv)) := ⟨HK.out.drewN nq⟩
  have HBz : Aside0 (Below w0.heap.size w0 (w1.drewN nq)) := ⟨pw_below_drewN HB1.out nq⟩
  have hbz : Aside0 ((w1.drewN nq).heap[gb]? = some (.cells (pk p).toArray 27 (0, 0))) := ⟨hbx⟩
  clear cx0 cx1 cx2 cv0 cq A H1 HK HB1 hbx d0 d1 d2 d3
  generalize w1.drewN nq = wz at HZ HKz HBz hbz ⊢
  have cx0 : wz.cell? ⟨gb, 0, none⟩ = some (.int .i64 p.f0) := (blk_cell hbz.out 0).trans rfl
  have cx1 : wz.cell? ⟨gb, 1, none⟩ = some (.int .i64 p.f1) := (blk_cell hbz.out 1).trans rfl
  have cx2 : wz.cell? ⟨gb, 2, none⟩ = some (.string p.f2) := (blk_cell hbz.out 2).trans rfl
  have cv0 : wz.cell? ⟨g, 0, none⟩ = some (.slice Av n.l.length cv) := cell_v HZ.out
  refine start_ (n := 11) (S := fun w' => w'.cell? ⟨gb, 0, none⟩ = some (.int .i64 p.f0) ∧ w'.cell? ⟨gb, 1, none⟩ = some (.int .i64 p.f1) ∧ w'.cell? ⟨gb, 2, none⟩ = some (.string p.f2) ∧ w'.cell? ⟨g, 0, none⟩ = some (.slice Av n.l.length cv)) (ds := [10]) #[false, false, false, false, false, false, false, false, false, false, false] (by kernel_rfl) rfl rfl ⟨cx0, cx1, cx2, cv0⟩ (fun hHeld => ?_)
  refine pure_ (i := 0) (N := some 47) (v := ?_) (a' := ?_) #[true, false, false, false, false, false, false, false, false, false, false] rfl rfl (by kernel_rfl) (fun _ _ _ h => h) (Or.inl ⟨by rfl, ?_⟩) ?_ ?_
  rotate_left
  · intro w'
    go_simp
    with_reducible rfl
  rotate_left
  · simp only [Act.put, List.setIfInBounds_toArray, List.set_cons_zero, List.set_cons_succ]
    rfl
  refine pure_ (i := 1) (N := some 48) (v := ?_) (a' := ?_) #[true, true, false, false, false, false, false, false, false, false, false] rfl rfl (by kernel_rfl) (fun _ _ _ h => h) (Or.inl ⟨by rfl, ?_⟩) ?_ ?_
  rotate_left
  · intro w'
    go_simp
    with_reducible rfl
  rotate_left
  · simp only [Act.put, List.setIfInBounds_toArray, List.set_cons_zero, List.set_cons_succ]
    rfl
  refine pure_ (i := 2) (N := some 49) (v := ?_) (a' := ?_) #[true, true, true, false, false, false, false, false, false, false, false] rfl rfl (by kernel_rfl) (fun _ _ _ h => h) (Or.inl ⟨by rfl, ?_⟩) ?_ ?_
  rotate_left
  · intro w'
    go_simp
    with_reducible rfl
  rotate_left
  · simp only [Act.put, List.setIfInBounds_toArray, List.set_cons_zero, List.set_cons_succ]
    rfl
  refine pure_ (i := 3) (N := some 50) (v := ?_) (a' := ?_) #[true, true, true, true, false, false, false, false, false, false, false] rfl rfl (by kernel_rfl) (fun _ _ _ h => h) (Or.inl ⟨by rfl, ?_⟩) ?_ ?_
  rotate_left
  · intro w'
    go_simp
    with_reducible rfl
  rotate_left
  · simp only [Act.put, List.setIfInBounds_toArray, List.set_cons_zero, List.set_cons_succ]
    rfl
  refine take_ (i := 4) (N := some 51) (v := ?_) (a' := ?_) #[true, true, true, true, true, false, false, false, false, false, false] rfl rfl (by kernel_rfl) (fun _ _ _ h => h) (Or.inl ⟨by rfl, ?_⟩) (by first | exact hHeld | assumption) ?_ ?_
  rotate_left
  · rintro w' ⟨s0, s1, s2, s3⟩
    go_simp
    with_reducible rfl
  rotate_left
  · simp only [Act.put, List.setIfInBounds_toArray, List.set_cons_zero, List.set_cons_succ]
    rfl
  refine take_ (i := 5) (N := some 52) (v := ?_) (a' := ?_) #[true, true, true, true, true, true, false, false, false, false, false] rfl rfl (by kernel_rfl) (fun _ _ _ h => h) (Or.inl ⟨by rfl, ?_⟩) (by first | exact hHeld | assumption) ?_ ?_
  rotate_left
  · rintro w' ⟨s0, s1, s2, s3⟩
    go_simp
    with_reducible rfl
  rotate_left
  · simp only [Act.put, List.setIfInBounds_toArray, List.set_cons_zero, List.set_cons_succ]
    rfl
  refine one_ (i := 6) (N := some 53) #[true, true, true, true, true, true, true, false, false, false, false] rfl rfl (by kernel_rfl) (by decide) (fun K hK => ?_)
  refine event_step (v := .slice (some ⟨wz.drew.heap.size, 0, none⟩) 1 1) (w1 := wz.drew.alloc (.cells (pk p).toArray 27)) (by rfl) (by first | (go_simp; done) | (go_simp; rfl)) ?_
  have hq0 : IsNet (wz.drew.alloc (.cells (pk p).toArray 27)) w0.heap.size g (.slice Av n.l.length cv) { n with a := wrap64 (n.a + 1) } := HZ.out.drew.alloc _
  have hq1 : Aside0 (Below w0.heap.size w0 (wz.drew.alloc (.cells (pk p).toArray 27))) := ⟨HBz.out.drew.alloc (by simpa using HBz.out.size) _⟩
  have hq2 : Aside0 (NetKeep w (wz.drew.alloc (.cells (pk p).toArray 27)) g (.slice Av n.l.length cv) (.slice Av n.l.length cv)) := ⟨HKz.out.drew.alloc _⟩
  have hq3 : Aside0 ((wz.drew.alloc (.cells (pk p).toArray 27)).heap[gb]? = some (.cells (pk p).toArray 27 (0, 0))) := ⟨blk_alloc (show wz.drew.heap[gb]? = _ from hbz.out) _⟩
  have hq4 : Aside0 ((wz.drew.alloc (.cells (pk p).toArray 27)).heap[wz.drew.heap.size]? = some (.cells (pk p).toArray 27 (0, 0))) := ⟨heap_alloc_new _ _⟩
  generalize wz.drew.alloc (.cells (pk p).toArray 27) = w5 at hq0 hq1 hq2 hq3 hq4 ⊢
  generalize wz.drew.heap.size = gr at hq4 ⊢
  refine hK.out _ _ ⟨(blk_cell hq3.out 0).trans rfl, (blk_cell hq3.out 1).trans rfl, (blk_cell hq3.out 2).trans rfl, cell_v hq0⟩ (fun hHeld => ?_)
  clear hK K
  refine norm_ (a' := ?_) ?_ ?_
  rotate_left
  · show Act.put _ (some 53) _ = _
    simp only [Act.put, List.setIfInBounds_toArray, List.set_cons_zero, List.set_cons_succ]
    rfl
  refine one_ (i := 7) (N := some 54) #[true, true, true, true, true, true, true, true, false, false, false] rfl rfl (by kernel_rfl) (by decide) (fun K hK => ?_)
  refine step_append_lies _ (by rfl) _ _ _ (by rfl) w0.heap.size 27 i27 _ 3 32 Try.underlying48 hi hz0 hz1 hz2 rfl (by omega) (.slice Av n.l.length cv) n.l.length (pks n.l) (by rfl) hq0.row _ 1 1 (pk p) (by rfl) (by rfl) (World.news_of_block hq4.out) (pk_oneCell p) (by omega) (by have := Hl.out; simp [maxLen]; omega) (by have := Hl.out; omega) hq1.out.size _ rfl ?_
  intro gn cap w2 hown2 hgrow hat hlt
  have hx3 : Aside0 (w2.heap[gb]? = some (.cells (pk p).toArray 27 (0, 0))) := ⟨(hgrow.block _ (blk_lt hq3.out) hneb.out).trans hq3.out⟩
  have hx0 : Aside0 (w2.heap[g]? = some (.cells (netCells (.slice Av n.l.length cv) { n with a := wrap64 (n.a + 1) }) 56 (0, 0))) := ⟨(hgrow.block _ hq0.lt hq0.ne).trans hq0.blk⟩
  refine hK.out _ _ ⟨(blk_cell hx3.out 0).trans rfl, (blk_cell hx3.out 1).trans rfl, (blk_cell hx3.out 2).trans rfl, (blk_cell hx0.out 0).trans rfl⟩ (fun hHeld => ?_)
  clear hK K
  refine norm_ (a' := ?_) ?_ ?_
  rotate_left
  · show Act.put _ (some 54) _ = _
    simp only [Act.put, List.setIfInBounds_toArray, List.set_cons_zero, List.set_cons_succ]
    rfl
  refine pure_ (i := 8) (N := some 55) (v := ?_) (a' := ?_) #[true, true, true, true, true, true, true, true, true, false, false] rfl rfl (by kernel_rfl) (fun _ _ _ h => h) (Or.inl ⟨by rfl, ?_⟩) ?_ ?_
  rotate_left
  · intro w'
    go_simp
    with_reducible rfl
  rotate_left
  · simp only [Act.put, List.setIfInBounds_toArray, List.set_cons_zero, List.set_cons_succ]
    rfl
  refine pure_ (i := 9) (N := some 56) (v := ?_) (a' := ?_) #[true, true, true, true, true, true, true, true, true, true, false] rfl rfl (by kernel_rfl) (fun _ _ _ h => h) (Or.inl ⟨by rfl, ?_⟩) ?_ ?_
  rotate_left
  · intro w'
    go_simp
    with_reducible rfl
  rotate_left
  · simp only [Act.put, List.setIfInBounds_toArray, List.set_cons_zero, List.set_cons_succ]
    rfl
  refine last_ (i := 10) (N := none) #[true, true, true, true, true, true, true, true, true, true, true] rfl rfl (by kernel_rfl) (by decide) (fun K hK => ?_)
  have hfr := blk_frozen hx0.out 0
  have hcl := (blk_cell hx0.out 0).trans rfl
  refine skip_ (w1 := ?_) (by rfl) rfl ?_ ?_
  rotate_left
  · go_simp
    rfl
  refine hK.out _ _ ?_
  clear hK K
  refine done_ (by kernel_rfl) ?_
  clear hfr hcl hHeld cx0 cx1 cx2 cv0
  go_wp2
  go_ret
  have hlen : (n.l ++ [p]).length = n.l.length + 1 := by simp
  have hown3 : w2.ownsRow w0.heap.size 27 3 (.slice (some ⟨gn, 0, none⟩) (n.l.length + 1) cap) (n.l ++ [p]).length (pks (n.l ++ [p])) := by rw [hlen, pks_append]; exact hown2
  refine ⟨_, rfl, IsNet.setRow (n := { n with a := wrap64 (n.a + 1) }) hq0.ge hx0.out hown3 hq0.cl (by have := Hl.out; omega) ?_, ?_, ?_⟩
  · intro q hq
    rcases List.mem_append.1 hq with hq | hq
    · exact hq0.ok q hq
    · obtain rfl := List.mem_singleton.1 hq
      exact Hp.out
  · exact (hq1.out.grown hgrow hq1.out.size (fun k hk => (own_lt' hq0.row k hk))).setCell hq0.ge _
  · refine (hq2.out.grown hgrow ?_).set _ _
    rcases hat with e | e
    · exact .inl e.symm
    · exact .inr ⟨gn, rfl, Nat.le_of_eq e.symm⟩


theorem step_fits {P : Program} {ops : Array Oper} {o : Oper} {a : Act} {K : Act → World → Prop} {Q : Exit → Act → World → Prop} {w : World} (hw : Region.wanted o (yielded ops a.tmps) = true) (s x : Operand) (t : TypeId)
    (ho : o.op = .call { callee := .builtin .append, args := #[s, x], argTypes := #[t, t] })
    (base : Nat) (e : TypeId) (i : TypeInfo) (size : Nat) (ht : P.underlying t = some (.slice e)) (hi : P.info? e = some i) (hsize : i.size = size)
    (g n cap : Nat) (xs : List Value) (hs : a.eval s = .slice (some ⟨g, 0, none⟩) n cap) (hown : w.ownsRow base e size (.slice (some ⟨g, 0, none⟩) n cap) n xs)
    (ad : Addr) (m c : Nat) (news : List Value) (hx : a.eval x = .slice (some ad) m c) (hl : news.length = m * size) (hnews : ∀ j u, news[j]? = some u → w.cell? (ad.add j) = some u) (h1 : ∀ u ∈ news, u.oneCell' = true) (hroom : n + m ≤ cap)
    (h : ∀ w', w'.ownsRow base e size (.slice (some ⟨g, 0, none⟩) (n + m) cap) (n + m) (xs ++ news) → w.grownBy w' (some g) → K (a.put o.dst (.slice (some ⟨g, 0, none⟩) (n + m) cap)) w') :
    if Region.wanted o (yielded ops a.tmps) = true then Oper.wp P o a w K Q else K (a.put o.dst undef) w := by
  obtain ⟨w', hr, h2, h3⟩ := run_append_fits (P := P) w base t o.type e i size ht hi hsize g n cap xs hown ad m c news hl hnews h1 hroom
  rw [if_pos hw]
  unfold Oper.wp execOp
  simp only [ho, resolve, invoke, builtin, Sem.run_bind, Sem.run_pure, Result.andThen_ok, List.map_toArray, List.map_cons, List.map_nil, hs, hx, hr]
  exact h w' h2 h3
theorem pks_take (l : List S60) (i : Nat) : (pks l).take (i * 3) = pks (l.take i) := by
  induction l generalizing i with
  | nil => simp [pks]
  | cons p l ih =>
    have hc : pks (p :: l) = pk p ++ pks l := rfl
    cases i with
    | zero => simp [pks]
    | succ i =>
      rw [hc, List.take_append, List.take_of_length_le (by show (pk p).length ≤ _; simp [pk]; omega), show (i + 1) * 3 - (pk p).length = i * 3 by simp [pk]; omega, ih i]
      rfl
theorem pks_drop (l : List S60) (i : Nat) : (pks l).drop (i * 3) = pks (l.drop i) := by
  induction l generalizing i with
  | nil => simp [pks]
  | cons p l ih =>
    have hc : pks (p :: l) = pk p ++ pks l := rfl
    cases i with
    | zero => simp [pks]
    | succ i =>
      rw [hc, List.drop_append, List.drop_of_length_le (by show (pk p).length ≤ _; simp [pk]; omega), show (i + 1) * 3 - (pk p).length = i * 3 by simp [pk]; omega, ih i]
      rfl
theorem own_there {w : World} {base b n c size : Nat} {e : TypeId} {xs : List Value} (h : w.ownsRow base e size (.slice (some ⟨b, 0, none⟩) n c) n xs) (j : Nat) (hj : j < c * size) : (w.cell? ⟨b, j, none⟩).isSome = true := by
  rcases h.2 with ⟨h', _⟩ | ⟨g, cap, cur, h', hb, hg, hnc, hcm, hcs, htake⟩
  · simp at h'
  · simp only [Value.slice.injEq, Option.some.injEq, Addr.mk.injEq, and_true, true_and] at h'
    obtain ⟨rfl, rfl⟩ := h'
    rw [cell_of_row w b j cur e (0, 0) hg, Array.getElem?_eq_getElem (by omega)]
    rfl
theorem zero27 (w : World) : (zeroValue 27).run Try.prog w = .ok (.agg #[(.int .i64 0), (.int .i64 0), (.string ⟨#[]⟩)]) w := by
  obtain ⟨i, hi, hz0, hz1, hz2⟩ := info_parts info27
  simp [zeroValue, typeInfo, hi, hz0]
theorem run_clear_rows {P : Program} (w : World) (t e ty : TypeId) (z : Value) (k : Nat) (ht : P.underlying t = some (.slice e)) (hv : ∀ w, (zeroValue e).run P w = .ok z w) (hz : z.cells.size = k) (hk : 0 < k) (h1 : ∀ u ∈ z.cells.toList, u.oneCell' = true) (b o n c : Nat)
    (hc : ∀ j, j < n * k → (w.cell? ⟨b, o + j, none⟩).isSome = true) (hf : ∀ j, j < n * k → w.frozen? ⟨b, o + j, none⟩ = false) :
    ∃ vs, (Builtin.clear_ #[t] ty #[.slice (some ⟨b, o, none⟩) n c]).run P w = .ok (.tuple #[]) (w.setCells b o vs) := by
  cases n with
  | zero => exact ⟨[], by simp [Builtin.clear_, run_underlying ht, World.setCells]⟩
  | succ m =>
    have hlen : (Builtin.zeroCells z.cells (m + 1)).toList.length = (m + 1) * k := by simp [Builtin.zeroCells, hz, Nat.mul_comm]
    refine ⟨(Builtin.zeroCells z.cells (m + 1)).toList, ?_⟩
    have hst := run_storeCells_cells (P := P) b o (Builtin.zeroCells z.cells (m + 1)).toList 0 w (fun j hj => by simpa using hc j (by omega)) (fun j hj => by simpa using hf j (by omega)) (by
      intro v hv'
      simp only [Builtin.zeroCells, Array.toList_map, List.mem_map] at hv'
      obtain ⟨q, _, rfl⟩ := hv'
      have hq : q % z.cells.size < z.cells.size := Nat.mod_lt _ (by omega)
      rw [getElem!_pos z.cells _ hq]
      exact h1 _ (by simp))
    simp only [Nat.add_zero] at hst
    simp [Builtin.clear_, run_underlying ht, hv, hst]
theorem clear27 (w : World) (ty : TypeId) (base b n c m k : Nat) (xs : List Value) (h : w.ownsRow base 27 3 (.slice (some ⟨b, 0, none⟩) n c) n xs) (hk : m + k ≤ c) (c' : Nat) :
    ∃ vs, (Builtin.clear_ #[48] ty #[.slice (some ⟨b, m * 3, none⟩) k c']).run Try.prog w = .ok (.tuple #[]) (w.setCells b (m * 3) vs) :=
  run_clear_rows w 48 27 ty _ 3 Try.underlying48 zero27 rfl (by omega) (by simp [Value.oneCell', Value.cells]) b (m * 3) k c' (fun j hj => own_there h _ (by omega)) (fun j _ => h.frozenAt _)
/-- A shorter slice of an own row owns what it holds. -/
theorem own_take {w : World} {base b c : Nat} {l : List S60} (h : w.ownsRow base 27 3 (.slice (some ⟨b, 0, none⟩) l.length c) l.length (pks l)) (i : Nat) (hi : i ≤ l.length) : w.ownsRow base 27 3 (.slice (some ⟨b, 0, none⟩) i c) i (pks (l.take i)) := by
  refine ⟨by rw [pks_len, List.length_take, Nat.min_eq_left hi], ?_⟩
  rcases h.2 with ⟨h', _⟩ | ⟨g, cap, cur, h', hb, hg, hnc, hcm, hcs, htake⟩
  · simp at h'
  · simp only [Value.slice.injEq, Option.some.injEq, Addr.mk.injEq, and_true, true_and] at h'
    obtain ⟨rfl, rfl⟩ := h'
    refine .inr ⟨b, c, cur, rfl, hb, hg, by omega, hcm, hcs, ?_⟩
    rw [← pks_take, ← htake, List.take_take, Nat.min_eq_left (Nat.mul_le_mul_right _ hi)]
/-- The cells of a row behind its i-th element. -/
theorem own_news {w : World} {base b c : Nat} {l : List S60} (h : w.ownsRow base 27 3 (.slice (some ⟨b, 0, none⟩) l.length c) l.length (pks l)) (i : Nat) (hi : i ≤ l.length) {A : Addr} (hA : i < l.length → A = ⟨b, i * 3, none⟩) : ∀ j u, (pks (l.drop i))[j]? = some u → w.cell? (A.add j) = some u := by
  intro j u hu
  have hj : j < (pks (l.drop i)).length := (List.getElem?_eq_some_iff.1 hu).1
  rw [pks_len, List.length_drop] at hj
  rw [hA (by omega), show (⟨b, i * 3, none⟩ : Addr).add j = ⟨b, i * 3 + j, none⟩ by unfold Addr.add; split <;> simp_all, h.cellAt _ (by omega), ← hu, ← pks_drop, List.getElem?_drop]
theorem own_setCells_far {base : Nat} {e : TypeId} {size b n cap : Nat} {xs : List Value} : ∀ (vs : List Value) (o : Nat) (w : World), w.ownsRow base e size (.slice (some ⟨b, 0, none⟩) n cap) n xs → n * size ≤ o → (w.setCells b o vs).ownsRow base e size (.slice (some ⟨b, 0, none⟩) n cap) n xs ∧ w.grownBy (w.setCells b o vs) (some b)
  | [], o, w, h, _ => ⟨h, World.grownBy.refl _ _⟩
  | v :: vs, o, w, h, ho => by
    obtain ⟨h1, h2⟩ := h.stored o v
    rw [List.set_eq_of_length_le (by rw [h.1]; exact ho)] at h1
    obtain ⟨h3, h4⟩ := own_setCells_far vs (o + 1) _ h1 (by omega)
    exact ⟨h3, h2.trans h4⟩

theorem api_Delete.calls (base b c : Nat) (l : List S60) (i : Nat) (w : World) (h : w.ownsRow base 27 3 (.slice (some ⟨b, 0, none⟩) l.length c) l.length (pks l)) (hi : i < l.length) (hm : l.length ≤ 4096) :
    Calls Try.prog 25 #[.slice (some ⟨b, 0, none⟩) l.length c, .int .i64 (i : Int), .int .i64 ((i : Int) + 1)] w fun e w' => e = .returned (.slice (some ⟨b, 0, none⟩) (l.eraseIdx i).length c) ∧ w'.ownsRow base 27 3 (.slice (some ⟨b, 0, none⟩) (l.eraseIdx i).length c) (l.eraseIdx i).length (pks (l.eraseIdx i)) ∧ w.grownBy w' (some b) := by
  have hlc : l.length ≤ c := own_le h
  obtain ⟨n, hn⟩ : ∃ n, n = l.length := ⟨_, rfl⟩
  have b0 : (0 : Int) ≤ (i : Int) := by omega
  have b1 : (i : Int) ≤ (i : Int) + 1 := by omega
  have b2 : (i : Int) + 1 ≤ (n : Int) := by omega
  have b3 : (n : Int) ≤ (c : Int) := by omega
  have b4 : (i : Int) + 1 ≤ (c : Int) := by omega
  have b5 : (i : Int) ≤ (c : Int) := by omega
  have b7 : (0 : Int) ≤ (i : Int) + 1 := by omega
  obtain ⟨A, hA, hsrc⟩ : ∃ A : Addr, (if c = i + 1 then some (⟨b, 0, none⟩ : Addr) else some ⟨b, (i + 1) * 3, none⟩) = some A ∧ Aside0 (∀ j u, (pks (l.drop (i + 1)))[j]? = some u → w.drew.cell? (A.add j) = some u) := by
    by_cases hh : c = i + 1
    · exact ⟨_, if_pos hh, ⟨own_news h (i + 1) (by omega) (fun hx => by omega)⟩⟩
    · exact ⟨_, if_neg hh, ⟨own_news h (i + 1) (by omega) (fun hx => rfl)⟩⟩
  have b6 : ((i : Int) == (i : Int) + 1) = false := beq_eq_false_iff_ne.mpr (by omega)
  have H := Aside0.mk h
  have Hn := Aside0.mk hn
  have Hi := Aside0.mk hi
  rw [← hn]
  clear h hn hi hlc
  go_enter Try.func25, Try.ntmps25
  go_upto_region 5 with (fail)
  refine start_ (n := 8) (S := fun _ => True) (ds := [8]) #[false, false, false, false, false, false, false, false] (by kernel_rfl) rfl rfl trivial (fun hHeld => ?_)
  refine pure_ (i := 0) (N := some 20) (v := ?_) (a' := ?_) #[true, false, false, false, false, false, false, false] rfl rfl (by kernel_rfl) (fun _ _ _ h => h) (Or.inl ⟨by rfl, ?_⟩) ?_ ?_
  rotate_left
  · intro w'
    go_simp
    with_reducible rfl
  rotate_left
  · simp only [Act.put, List.setIfInBounds_toArray, List.set_cons_zero, List.set_cons_succ]
    rfl
  refine pure_ (i := 1) (N := some 21) (v := ?_) (a' := ?_) #[true, true, false, false, false, false, false, false] rfl rfl (by kernel_rfl) (fun _ _ _ h => h) (Or.inl ⟨by rfl, ?_⟩) ?_ ?_
  rotate_left
  · intro w'
    go_simp
    with_reducible rfl
  rotate_left
  · simp only [Act.put, List.setIfInBounds_toArray, List.set_cons_zero, List.set_cons_succ]
    rfl
  refine pure_ (i := 2) (N := some 22) (v := ?_) (a' := ?_) #[true, true, true, false, false, false, false, false] rfl rfl (by kernel_rfl) (fun _ _ _ h => h) (Or.inl ⟨by rfl, ?_⟩) ?_ ?_
  rotate_left
  · intro w'
    go_simp
    with_reducible rfl
  rotate_left
  · simp only [Act.put, List.setIfInBounds_toArray, List.set_cons_zero, List.set_cons_succ]
    rfl
  refine pure_ (i := 3) (N := some 23) (v := ?_) (a' := ?_) #[true, true, true, true, false, false, false, false] rfl rfl (by kernel_rfl) (fun _ _ _ h => h) (Or.inl ⟨by rfl, ?_⟩) ?_ ?_
  rotate_left
  · intro w'
    go_simp
    with_reducible rfl
  rotate_left
  · simp only [Act.put, List.setIfInBounds_toArray, List.set_cons_zero, List.set_cons_succ]
    rfl
  refine pure_ (i := 4) (N := some 24) (v := ?_) (a' := ?_) #[true, true, true, true, true, false, false, false] rfl rfl (by kernel_rfl) (fun _ _ _ h => h) (Or.inl ⟨by rfl, ?_⟩) ?_ ?_
  rotate_left
  · intro w'
    go_simp
    with_reducible rfl
  rotate_left
  · simp only [Act.put, List.setIfInBounds_toArray, List.set_cons_zero, List.set_cons_succ]
    rfl
  refine pure_ (i := 5) (N := some 25) (v := ?_) (a' := ?_) #[true, true, true, true, true, true, false, false] rfl rfl (by kernel_rfl) (fun _ _ _ h => h) (Or.inl ⟨by rfl, ?_⟩) ?_ ?_
  rotate_left
  · intro w'
    go_simp
    with_reducible rfl
  rotate_left
  · simp only [Act.put, List.setIfInBounds_toArray, List.set_cons_zero, List.set_cons_succ]
    rfl
  refine one_ (i := 6) (N := some 26) #[true, true, true, true, true, true, true, false] rfl rfl (by kernel_rfl) (by decide) (fun K hK => ?_)
  obtain ⟨i0, hi0, hz0, hz1, hz2⟩ := info_parts info27
  have hlen := Hn.out
  have hlc : (l.drop (i + 1)).length = n - (i + 1) := by rw [List.length_drop]; omega
  refine step_fits (by rfl) _ _ _ (by rfl) base 27 i0 3 Try.underlying48 hi0 hz1 b i c (pks (l.take i)) (by rfl) (own_take (w := w.drew) H.out i (by have := Hi.out; omega)) A (n - (i + 1)) (c - (i + 1)) (pks (l.drop (i + 1))) (by rfl) (by rw [pks_len, hlc]) hsrc.out (pks_oneCell _) (by have := Hi.out; omega) ?_
  clear hlen
  obtain ⟨m, hm1⟩ : ∃ m, n = m + 1 := ⟨n - 1, by have := Hi.out; have := Hn.out; omega⟩
  subst hm1
  rw [show i + (m + 1 - (i + 1)) = m by have := Hi.out; have := Hn.out; omega]
  intro w1 hown1 hgrow1
  refine hK.out _ _ trivial (fun hHeld => ?_)
  clear hK K
  refine norm_ (a' := ?_) ?_ ?_
  rotate_left
  · show Act.put _ (some 26) _ = _
    simp only [Act.put, List.setIfInBounds_toArray, List.set_cons_zero, List.set_cons_succ]
    rfl
  refine pure_ (i := 7) (N := some 0) (v := ?_) (a' := ?_) #[true, true, true, true, true, true, true, true] rfl rfl (by kernel_rfl) (fun _ _ _ h => h) (Or.inl ⟨by rfl, ?_⟩) ?_ ?_
  rotate_left
  · intro w'
    go_simp
    with_reducible rfl
  rotate_left
  · simp only [Act.put, List.setIfInBounds_toArray, List.set_cons_zero, List.set_cons_succ]
    rfl
  refine done_ (by kernel_rfl) ?_
  go_upto_region 6 with (fail)
  have hcm : ¬ (c = m) := by omega
  have m0 : (0 : Int) ≤ (m : Int) := by omega
  have m1 : (m : Int) ≤ (m : Int) + 1 := by omega
  have m2 : ((m : Int) + 1) ≤ (c : Int) := by omega
  obtain ⟨vs, hcl⟩ := clear27 w1 0 base b m c m 1 _ hown1 (by omega) (c - m)
  have HO := Aside0.mk hown1
  have HG := Aside0.mk hgrow1
  clear hown1 hgrow1 hA b0 b1 b2 b3 b4 b5 b7 b6 hlc
  go_wp2
  go_ret
  have hl : (l.eraseIdx i).length = m := by rw [List.length_eraseIdx, if_pos Hi.out, ← Hn.out]; rfl
  have hp : pks (l.take i) ++ pks (l.drop (i + 1)) = pks (l.eraseIdx i) := by rw [← pks_append, List.eraseIdx_eq_take_drop_succ]
  rw [hp] at HO
  obtain ⟨h1, h2⟩ := own_setCells_far vs (m * 3) w1 HO.out (Nat.le_refl _)
  rw [hl]
  have hg3 : w.grownBy w1 (some b) := ⟨HG.out.os, HG.out.tape, HG.out.output, HG.out.size, HG.out.block⟩
  exact ⟨rfl, h1, hg3.trans h2⟩
theorem wires_Take.calls (w0 : World) (g : Nat) (v : Value) (n : NetS) (i : Int) (w : World) (h : IsNet w w0.heap.size g v n) (hB : Below w0.heap.size w0 w) (h0 : 0 ≤ i) (h1 : i < n.l.length) (p : S60) (hp : p = n.l.getD i.toNat z60) :
    Calls Try.prog 14 #[.pointer (some ⟨g, 0, none⟩), .int .i64 i] w fun e w' => ∃ v', e = .returned (.tuple #[.agg #[.int .i64 p.f0, .int .i64 p.f1, .string p.f2], .bool true]) ∧ IsNet w' w0.heap.size g v' { n with l := n.l.eraseIdx i.toNat, b := wrap64 (n.b + 1) } ∧ Below w0.heap.size w0 w' ∧ NetKeep w w' g v v' := by
  obtain ⟨b, c, rfl, hle, _⟩ := h.elem (i := i.toNat) (by omega)
  obtain ⟨k, rfl⟩ := Int.eq_ofNat_of_zero_le h0
  have hk : k < n.l.length := by omega
  simp only [Int.toNat_natCast] at hp ⊢
  have hk1 : (k : Int) < 4096 := by have := h.le; omega
  have H := Aside0.mk h
  have HB := Aside0.mk hB
  have HK := Aside0.mk hk
  have HP := Aside0.mk hp
  have hbg : Aside0 (b ≠ g) := ⟨fun e => h.ne (by rw [e]; rfl)⟩
  have hbw : Aside0 (b < w.heap.size) := ⟨own_lt h.row b rfl⟩
  clear h hB h0 h1 hle hk hp
  go_enter Try.func14, Try.ntmps14
  go_wp2_with (first
    | (go_at_call 20; (refine (wires_At.calls w0.heap.size g _ n (k : Int) _ (H.out.alloc _) (by omega) (by have := HK.out; omega) p HP.out).mono ?_); rintro e w1 ⟨rfl, hb⟩
       have H1 := Aside0.mk ((H.out.alloc _).below hb)
       have hm0 : Aside0 (w.heap.size ≤ w1.heap.size) := ⟨Nat.le_trans (by simp) hb.size⟩
       have hr0 := Aside0.mk (blk_below (g := w.heap.size) (heap_alloc_new w _) hb)
       have hB1 : Aside0 (Below w0.heap.size w0 w1) := ⟨below_step (HB.out.alloc HB.out.size _) hb⟩
       have hK1 : Aside0 (NetKeep w w1 g (.slice (some ⟨b, 0, none⟩) n.l.length c) (.slice (some ⟨b, 0, none⟩) n.l.length c)) := ⟨((NetKeep.refl w g _).alloc _).below hb⟩
       have hg0 := cell_v H1.out
       have hg1 := H1.out.lt
       clear hb))
  refine (api_Delete.calls w0.heap.size b c n.l k _ ((H1.out.alloc _).row) HK.out (H1.out.le)).mono ?_
  rintro e w2 ⟨rfl, hown2, hgrow⟩
  have hgl : g < w.heap.size := H.out.lt
  have hm1 := hm0.out
  have hbw1 := hbw.out
  have hbg1 := hbg.out
  have H2g : Aside0 (w2.heap[g]? = some (.cells (netCells (.slice (some ⟨b, 0, none⟩) n.l.length c) n) 56 (0, 0))) := ⟨(hgrow.block _ (by simp; omega) (fun hh => by injection hh with hh; omega)).trans ((H1.out.alloc _)).blk⟩
  have K2 : Aside0 (NetKeep w w2 g (.slice (some ⟨b, 0, none⟩) n.l.length c) (.slice (some ⟨b, 0, none⟩) (n.l.eraseIdx k).length c)) := ⟨(hK1.out.alloc _).grown hgrow (.inl rfl)⟩
  have B2 : Aside0 (Below w0.heap.size w0 w2) := ⟨(hB1.out.alloc hB1.out.size _).grown hgrow (by first | exact hB1.out.size | exact Nat.le_trans hB1.out.size (by simp)) (fun q hq => by injection hq with hq; subst hq; exact own_base H.out.row b rfl)⟩
  have O2 := Aside0.mk hown2
  have gf0 := blk_frozen H2g.out 0
  have gf1 := blk_frozen H2g.out 51
  have gc0 : w2.cell? ⟨g, 0, none⟩ = some (.slice (some ⟨b, 0, none⟩) n.l.length c) := (blk_cell H2g.out 0).trans rfl
  have gc1 := cell_b_of H2g.out H.out.cl
  have H2t : Aside0 (w2.heap[w1.heap.size]? = some (.cells #[.int .i64 p.f0, .int .i64 p.f1, .string p.f2] 27 (0, 0))) := ⟨(hgrow.block _ (by simp) (fun hh => by injection hh with hh; omega)).trans (heap_alloc_new w1 _)⟩
  have H2r : Aside0 (w2.heap[w.heap.size]? = some (.cells #[.int .i64 0, .int .i64 0, .string ⟨#[]⟩] 27 (0, 0))) := ⟨(hgrow.block _ (by simp; have := hr0.out; have := blk_lt this; omega) (fun hh => by injection hh with hh; omega)).trans (blk_alloc hr0.out _)⟩
  have tc0 : w2.cell? ⟨w1.heap.size, 0, none⟩ = some (.int .i64 p.f0) := (blk_cell H2t.out 0).trans rfl
  have tc1 : w2.cell? ⟨w1.heap.size, 1, none⟩ = some (.int .i64 p.f1) := (blk_cell H2t.out 1).trans rfl
  have tc2 : w2.cell? ⟨w1.heap.size, 2, none⟩ = some (.string p.f2) := (blk_cell H2t.out 2).trans rfl
  have rc0 : w2.cell? ⟨w.heap.size, 0, none⟩ = some (.int .i64 0) := (blk_cell H2r.out 0).trans rfl
  have rc1 : w2.cell? ⟨w.heap.size, 1, none⟩ = some (.int .i64 0) := (blk_cell H2r.out 1).trans rfl
  have rc2 : w2.cell? ⟨w.heap.size, 2, none⟩ = some (.string ⟨#[]⟩) := (blk_cell H2r.out 2).trans rfl
  have rf0 := blk_frozen H2r.out 0
  have rf1 := blk_frozen H2r.out 1
  have rf2 := blk_frozen H2r.out 2
  have ne1 : w1.heap.size ≠ g := by omega
  have ne2 : g ≠ w1.heap.size := by omega
  have ne3 : w.heap.size ≠ g := by omega
  have ne4 : g ≠ w.heap.size := by omega
  clear hown2 hgrow hgl hm1 hbw1 hbg1
  go_wp2
  refine bodyPost_ret (results_ct rfl _ _ w.heap.size 27 #[.int .i64 p.f0, .int .i64 p.f1, .string p.f2] (0, 0) _ rfl (blk_put (blk_put (blk_put ((Below.heap_setCell _ _ _ _ ne3).trans ((Below.heap_setCell _ _ _ _ ne3).trans H2r.out)) 0 _ rfl) 1 _ rfl) 2 _ rfl) Try.underlying27 rfl (by kernel_rfl)) rfl ?_
  have hbr : (Value.slice (some ⟨b, 0, none⟩) (n.l.eraseIdx k).length c).ownBlock ≠ some w.heap.size := own_ne_of hbw.out
  exact ⟨_, rfl, ((((IsNet.setRow (n := n) H.out.ge H2g.out O2.out H.out.cl (erase_le H.out.le k) (fun q hq => H.out.ok q (List.mem_of_mem_eraseIdx hq))).setB _).setFar ne4 hbr _ _).setFar ne4 hbr _ _).setFar ne4 hbr _ _, ((((B2.out.setCell H.out.ge _).setCell H.out.ge _).setCell HB.out.size _).setCell HB.out.size _).setCell HB.out.size _, ((((K2.out.set _ _).set _ _).setNew (Nat.le_refl _) _ _).setNew (Nat.le_refl _) _ _).setNew (Nat.le_refl _) _ _⟩

theorem wires_Drop.calls (w0 : World) (g : Nat) (v : Value) (n : NetS) (i : Int) (w : World) (h : IsNet w w0.heap.size g v n) (hB : Below w0.heap.size w0 w) (h0 : 0 ≤ i) (h1 : i < n.l.length) (p : S60) (hp : p = n.l.getD i.toNat z60) :
    Calls Try.prog 22 #[.pointer (some ⟨g, 0, none⟩), .int .i64 i] w fun e w' => ∃ v', e = .returned (.bool true) ∧ IsNet w' w0.heap.size g v' { n with l := n.l.eraseIdx i.toNat, c := wrap64 (n.c + 1) } ∧ Below w0.heap.size w0 w' ∧ NetKeep w w' g v v' := by
  obtain ⟨b, c, rfl, hle, _⟩ := h.elem (i := i.toNat) (by omega)
  obtain ⟨k, rfl⟩ := Int.eq_ofNat_of_zero_le h0
  have hk : k < n.l.length := by omega
  simp only [Int.toNat_natCast] at hp ⊢
  have hk1 : (k : Int) < 4096 := by have := h.le; omega
  have H := Aside0.mk h
  have HB := Aside0.mk hB
  have HK := Aside0.mk hk
  have HP := Aside0.mk hp
  have hbg : Aside0 (b ≠ g) := ⟨fun e => h.ne (by rw [e]; rfl)⟩
  have hbw : Aside0 (b < w.heap.size) := ⟨own_lt h.row b rfl⟩
  clear h hB h0 h1 hle hk hp
  go_enter Try.func22, Try.ntmps22
  go_wp2_with (first
    | (go_at_call 20; (refine (wires_At.calls w0.heap.size g _ n (k : Int) _ H.out (by omega) (by have := HK.out; omega) p HP.out).mono ?_); rintro e w1 ⟨rfl, hb⟩
       have H1 := Aside0.mk ((H.out).below hb)
       have hm0 : Aside0 (w.heap.size ≤ w1.heap.size) := ⟨Nat.le_trans (by simp) hb.size⟩
       have hB1 : Aside0 (Below w0.heap.size w0 w1) := ⟨below_step HB.out hb⟩
       have hK1 : Aside0 (NetKeep w w1 g (.slice (some ⟨b, 0, none⟩) n.l.length c) (.slice (some ⟨b, 0, none⟩) n.l.length c)) := ⟨(NetKeep.refl w g _).below hb⟩
       have hg0 := cell_v H1.out
       have hg1 := H1.out.lt
       clear hb))
  refine (api_Delete.calls w0.heap.size b c n.l k _ ((H1.out.alloc _).row) HK.out (H1.out.le)).mono ?_
  rintro e w2 ⟨rfl, hown2, hgrow⟩
  have hgl : g < w.heap.size := H.out.lt
  have hm1 := hm0.out
  have hbw1 := hbw.out
  have hbg1 := hbg.out
  have H2g : Aside0 (w2.heap[g]? = some (.cells (netCells (.slice (some ⟨b, 0, none⟩) n.l.length c) n) 56 (0, 0))) := ⟨(hgrow.block _ (by simp; omega) (fun hh => by injection hh with hh; omega)).trans ((H1.out.alloc _)).blk⟩
  have K2 : Aside0 (NetKeep w w2 g (.slice (some ⟨b, 0, none⟩) n.l.length c) (.slice (some ⟨b, 0, none⟩) (n.l.eraseIdx k).length c)) := ⟨(hK1.out.alloc _).grown hgrow (.inl rfl)⟩
  have B2 : Aside0 (Below w0.heap.size w0 w2) := ⟨(hB1.out.alloc hB1.out.size _).grown hgrow (by first | exact hB1.out.size | exact Nat.le_trans hB1.out.size (by simp)) (fun q hq => by injection hq with hq; subst hq; exact own_base H.out.row b rfl)⟩
  have O2 := Aside0.mk hown2
  have gf0 := blk_frozen H2g.out 0
  have gf1 := blk_frozen H2g.out 52
  have gc0 : w2.cell? ⟨g, 0, none⟩ = some (.slice (some ⟨b, 0, none⟩) n.l.length c) := (blk_cell H2g.out 0).trans rfl
  have gc1 := cell_c_of H2g.out H.out.cl
  have ne3 : w.heap.size ≠ g := by omega
  have ne4 : g ≠ w.heap.size := by omega
  clear hown2 hgrow hgl hm1 hbw1 hbg1
  go_wp2
  go_ret
  exact ⟨_, rfl, (IsNet.setRow (n := n) H.out.ge H2g.out O2.out H.out.cl (erase_le H.out.le k) (fun q hq => H.out.ok q (List.mem_of_mem_eraseIdx hq))).setC _, (B2.out.setCell H.out.ge _).setCell H.out.ge _, (K2.out.set _ _).set _ _⟩

theorem wires_Take.out (base g : Nat) (v : Value) (n : NetS) (i : Int) (w : World) (h : IsNet w base g v n) (h0 : i < 0 ∨ (n.l.length : Int) ≤ i) :
    Calls Try.prog 14 #[.pointer (some ⟨g, 0, none⟩), .int .i64 i] w fun e w' => e = .returned (.tuple #[.agg #[.int .i64 0, .int .i64 0, .string ⟨#[]⟩], .bool false]) ∧ Below w.heap.size w w' := by
  have H := Aside0.mk h
  have H0 := Aside0.mk h0
  clear h h0
  go_enter Try.func14, Try.ntmps14
  go_wp2_with (first
    | (go_at_call 20; (refine (wires_At.out _ _ _ _ _ _ (H.out.alloc _) H0.out).mono ?_); rintro e w1 ⟨rfl, hb⟩
       have hr0 := Aside0.mk (blk_below (g := w.heap.size) (heap_alloc_new w _) hb)
       have hlt : w.heap.size < w1.heap.size := blk_lt hr0.out
       have hn1 : w.heap.size ≠ w1.heap.size := by omega
       have hn2 : w1.heap.size ≠ w.heap.size := by omega
       have rc0 : w1.cell? ⟨w.heap.size, 0, none⟩ = some (.int .i64 0) := (blk_cell hr0.out 0).trans rfl
       have rc1 : w1.cell? ⟨w.heap.size, 1, none⟩ = some (.int .i64 0) := (blk_cell hr0.out 1).trans rfl
       have rc2 : w1.cell? ⟨w.heap.size, 2, none⟩ = some (.string ⟨#[]⟩) := (blk_cell hr0.out 2).trans rfl
       have rf0 := blk_frozen hr0.out 0
       have rf1 := blk_frozen hr0.out 1
       have rf2 := blk_frozen hr0.out 2
       have HB := Aside0.mk (below_step ((Below.refl w.heap.size w).alloc (Nat.le_refl _) _) hb)
       clear hb))
  refine bodyPost_ret (results_ct rfl _ _ w.heap.size 27 #[.int .i64 0, .int .i64 0, .string ⟨#[]⟩] (0, 0) _ rfl (blk_alloc (blk_put (blk_put (blk_put hr0.out 0 _ rfl) 1 _ rfl) 2 _ rfl) _) Try.underlying27 rfl (by kernel_rfl)) rfl ?_
  exact ⟨rfl, below_alloc (((HB.out.setCell (Nat.le_refl _) _).setCell (Nat.le_refl _) _).setCell (Nat.le_refl _) _) _⟩
theorem wires_Drop.out (base g : Nat) (v : Value) (n : NetS) (i : Int) (w : World) (h : IsNet w base g v n) (h0 : i < 0 ∨ (n.l.length : Int) ≤ i) :
    Calls Try.prog 22 #[.pointer (some ⟨g, 0, none⟩), .int .i64 i] w fun e w' => e = .returned (.bool false) ∧ Below w.heap.size w w' := by
  have H := Aside0.mk h
  have H0 := Aside0.mk h0
  clear h h0
  go_enter Try.func22, Try.ntmps22
  go_wp2_with (first
    | (go_at_call 20; (refine (wires_At.out _ _ _ _ _ _ H.out H0.out).mono ?_); rintro e w1 ⟨rfl, hb⟩
       have HB := Aside0.mk hb
       clear hb))
  go_ret
  exact ⟨rfl, below_alloc HB.out _⟩
theorem IsNet.setBools : ∀ (bs : List Bool) (i : Nat) {w : World} {base g : Nat} {v : Value} {n : NetS}, IsNet w base g v n → i + bs.length ≤ 49 → IsNet (w.setCells g (1 + i) (bs.map Value.bool)) base g v { n with cut := n.cut.take i ++ bs ++ n.cut.drop (i + bs.length) }
  | [], i, w, base, g, v, n, h, _ => by
    simp only [List.map_nil, World.setCells, List.append_nil, List.length_nil, Nat.add_zero, List.take_append_drop]
    exact h
  | x :: bs, i, w, base, g, v, n, h, hi => by
    have hl : (x :: bs).length = bs.length + 1 := rfl
    have h1 := IsNet.setBools bs (i + 1) (h.setCut i (by omega) x) (by omega)
    have hc : n.cut.length = 49 := h.cl
    have e : (n.cut.set i x).take (i + 1) ++ bs ++ (n.cut.set i x).drop (i + 1 + bs.length) = n.cut.take i ++ (x :: bs) ++ n.cut.drop (i + (bs.length + 1)) := by
      rw [List.drop_set_of_lt (by omega), show i + 1 + bs.length = i + (bs.length + 1) by omega, List.take_set, List.take_succ_eq_append_getElem (by omega : i < n.cut.length), List.set_append_right _ _ (by simp; omega)]
      simp [List.length_take, Nat.min_eq_left (by omega : i ≤ n.cut.length)]
    rw [hl, ← e]
    exact h1
theorem wires_Heal.calls (w0 : World) (g : Nat) (v : Value) (n : NetS) (w : World) (h : IsNet w w0.heap.size g v n) (hB : Below w0.heap.size w0 w) :
    Calls Try.prog 16 #[.pointer (some ⟨g, 0, none⟩)] w fun e w' => e = .returned (.tuple #[]) ∧ IsNet w' w0.heap.size g v { n with cut := List.replicate 49 false } ∧ Below w0.heap.size w0 w' ∧ NetKeep w w' g v v := by
  have ht : Aside0 (w.there g 1 49) := ⟨fun j hj => ⟨by rw [cell_cut h j hj]; rfl, blk_frozen h.blk _⟩⟩
  have H := Aside0.mk h
  have HB := Aside0.mk hB
  clear h hB
  go_enter Try.func16, Try.ntmps16
  go_wp2_with ((with_reducible refine gate_store (t := 54) (p := 7) rfl ?_); refine wpList_store_mid (by rfl) 54 _ _ (by rfl) g 1 (List.replicate 49 (Value.bool false)).toArray (by rfl) (by rfl) ht.out (by kernel_rfl) (all_oneCell_toArray (by intro u hu; rw [List.eq_of_mem_replicate hu]; rfl)) ?_)
  first | go_end0 | ((try simp only [Exit.inBlock, Exit.then]); refine bodyPost_ret (results_none rfl _ _ _) rfl ?_)
  have h1 := IsNet.setBools (List.replicate 49 false) 0 H.out (by decide)
  have e : n.cut.take 0 ++ List.replicate 49 false ++ n.cut.drop (0 + (List.replicate 49 false).length) = List.replicate 49 false := by
    rw [List.drop_of_length_le (by rw [H.out.cl]; decide)]; simp
  rw [e] at h1
  refine ⟨rfl, h1, below_sets H.out.ge _ _ HB.out, NetKeep.sets _ _ (NetKeep.refl w g v)⟩
theorem wires_Double.calls (w0 : World) (g : Nat) (v : Value) (n : NetS) (i : Int) (w : World) (h : IsNet w w0.heap.size g v n) (hB : Below w0.heap.size w0 w) (h0 : 0 ≤ i) (h1 : i < n.l.length) (hl : n.l.length < 4096) (p : S60) (hp : p = n.l.getD i.toNat z60) :
    Calls Try.prog 12 #[.pointer (some ⟨g, 0, none⟩), .int .i64 i] w fun e w' => ∃ v', e = .returned (.bool true) ∧ IsNet w' w0.heap.size g v' { n with l := n.l ++ [p], a := wrap64 (n.a + 1) } ∧ Below w0.heap.size w0 w' ∧ NetKeep w w' g v v' := by
  obtain ⟨Av, cv, rfl⟩ := own_slice h.row
  have Hp : Aside0 (0 ≤ p.f0 ∧ p.f0 < 7 ∧ 0 ≤ p.f1 ∧ p.f1 < 7) := ⟨by
    rw [hp, List.getD_eq_getElem?_getD, List.getElem?_eq_getElem (by omega)]
    exact h.ok _ (List.getElem_mem _)⟩
  have H := Aside0.mk h
  have HB := Aside0.mk hB
  have HP := Aside0.mk hp
  have H01 := Aside0.mk (And.intro h0 h1)
  have Hl := Aside0.mk hl
  have dl : decide ((4096 : Int) ≤ (n.l.length : Int)) = false := decide_eq_false (by omega)
  clear h hB h0 h1 hp hl
  go_enter Try.func12, Try.ntmps12
  go_wp2_with (first
    | (go_at_call 20; (refine (wires_At.calls w0.heap.size g _ n i _ H.out H01.out.1 H01.out.2 p HP.out).mono ?_); rintro e w1 ⟨rfl, hb⟩
       have H1 : Aside0 (IsNet w1 w0.heap.size g (.slice Av n.l.length cv) n) := ⟨H.out.below hb⟩
       have HB1 := Aside0.mk (below_step HB.out hb)
       have HK1 := Aside0.mk ((NetKeep.refl w g (.slice Av n.l.length cv)).below hb)
       have hg0 := cell_v H1.out
       have hg50 := cell_a H1.out
       have hf50 := blk_frozen H1.out.blk 50
       have hgl := H1.out.lt
       have hgn : g ≠ w1.heap.size := by omega
       clear hb))
  have eW : Aside0 (∃ wz gb, wz = (w1.setCell ⟨g, 50, none⟩ (.int .i64 (wrap64 (n.a + 1)))).alloc (.cells #[.int .i64 p.f0, .int .i64 p.f1, .string p.f2] 27) ∧ gb = w1.heap.size) := ⟨_, _, rfl, rfl⟩
  obtain ⟨wz, gb, hwz, hgb⟩ := eW.out
  rw [← hwz, ← hgb]
  obtain ⟨i27, hi, hz0, hz1, hz2⟩ := info_parts info27
  have HZ : Aside0 (IsNet wz w0.heap.size g (.slice Av n.l.length cv) { n with a := wrap64 (n.a + 1) }) := ⟨by rw [hwz]; exact (H1.out.setA _).alloc _⟩
  have HKz : Aside0 (NetKeep w wz g (.slice Av n.l.length cv) (.slice Av n.l.length cv)) := ⟨by rw [hwz]; exact (HK1.out.set _ _).alloc _⟩
  have HBz : Aside0 (Below w0.heap.size w0 wz) := ⟨by rw [hwz]; exact (HB1.out.setCell H1.out.ge _).alloc (by simpa using HB1.out.size) _⟩
  have hbz : Aside0 (wz.heap[gb]? = some (.cells (pk p).toArray 27 (0, 0))) := ⟨by rw [hwz, hgb, show w1.heap.size = (w1.setCell ⟨g, 50, none⟩ (.int .i64 (wrap64 (n.a + 1)))).heap.size by simp]; exact heap_alloc_new _ _⟩
  have hneb : Aside0 (some gb ≠ (Value.slice Av n.l.length cv).ownBlock) := ⟨fun hh => by have := own_lt H1.out.row gb hh.symm; omega⟩
  clear hwz hgb eW hg0 hg50 hf50 hgl hgn H1 HB1 HK1 H01 HP
  have cx0 : wz.cell? ⟨gb, 0, none⟩ = some (.int .i64 p.f0) := (blk_cell hbz.out 0).trans rfl
  have cx1 : wz.cell? ⟨gb, 1, none⟩ = some (.int .i64 p.f1) := (blk_cell hbz.out 1).trans rfl
  have cx2 : wz.cell? ⟨gb, 2, none⟩ = some (.string p.f2) := (blk_cell hbz.out 2).trans rfl
  have cv0 : wz.cell? ⟨g, 0, none⟩ = some (.slice Av n.l.length cv) := cell_v HZ.out
  refine start_ (n := 11) (S := fun w' => w'.cell? ⟨gb, 0, none⟩ = some (.int .i64 p.f0) ∧ w'.cell? ⟨gb, 1, none⟩ = some (.int .i64 p.f1) ∧ w'.cell? ⟨gb, 2, none⟩ = some (.string p.f2) ∧ w'.cell? ⟨g, 0, none⟩ = some (.slice Av n.l.length cv)) (ds := [10]) #[false, false, false, false, false, false, false, false, false, false, false] (by kernel_rfl) rfl rfl ⟨cx0, cx1, cx2, cv0⟩ (fun hHeld => ?_)
  refine pure_ (i := 0) (N := some 30) (v := ?_) (a' := ?_) #[true, false, false, false, false, false, false, false, false, false, false] rfl rfl (by kernel_rfl) (fun _ _ _ h => h) (Or.inl ⟨by rfl, ?_⟩) ?_ ?_
  rotate_left
  · intro w'
    go_simp
    with_reducible rfl
  rotate_left
  · simp only [Act.put, List.setIfInBounds_toArray, List.set_cons_zero, List.set_cons_succ]
    rfl
  refine pure_ (i := 1) (N := some 31) (v := ?_) (a' := ?_) #[true, true, false, false, false, false, false, false, false, false, false] rfl rfl (by kernel_rfl) (fun _ _ _ h => h) (Or.inl ⟨by rfl, ?_⟩) ?_ ?_
  rotate_left
  · intro w'
    go_simp
    with_reducible rfl
  rotate_left
  · simp only [Act.put, List.setIfInBounds_toArray, List.set_cons_zero, List.set_cons_succ]
    rfl
  refine pure_ (i := 2) (N := some 32) (v := ?_) (a' := ?_) #[true, true, true, false, false, false, false, false, false, false, false] rfl rfl (by kernel_rfl) (fun _ _ _ h => h) (Or.inl ⟨by rfl, ?_⟩) ?_ ?_
  rotate_left
  · intro w'
    go_simp
    with_reducible rfl
  rotate_left
  · simp only [Act.put, List.setIfInBounds_toArray, List.set_cons_zero, List.set_cons_succ]
    rfl
  refine pure_ (i := 3) (N := some 33) (v := ?_) (a' := ?_) #[true, true, true, true, false, false, false, false, false, false, false] rfl rfl (by kernel_rfl) (fun _ _ _ h => h) (Or.inl ⟨by rfl, ?_⟩) ?_ ?_
  rotate_left
  · intro w'
    go_simp
    with_reducible rfl
  rotate_left
  · simp only [Act.put, List.setIfInBounds_toArray, List.set_cons_zero, List.set_cons_succ]
    rfl
  refine take_ (i := 4) (N := some 34) (v := ?_) (a' := ?_) #[true, true, true, true, true, false, false, false, false, false, false] rfl rfl (by kernel_rfl) (fun _ _ _ h => h) (Or.inl ⟨by rfl, ?_⟩) (by first | exact hHeld | assumption) ?_ ?_
  rotate_left
  · rintro w' ⟨s0, s1, s2, s3⟩
    go_simp
    with_reducible rfl
  rotate_left
  · simp only [Act.put, List.setIfInBounds_toArray, List.set_cons_zero, List.set_cons_succ]
    rfl
  refine take_ (i := 5) (N := some 35) (v := ?_) (a' := ?_) #[true, true, true, true, true, true, false, false, false, false, false] rfl rfl (by kernel_rfl) (fun _ _ _ h => h) (Or.inl ⟨by rfl, ?_⟩) (by first | exact hHeld | assumption) ?_ ?_
  rotate_left
  · rintro w' ⟨s0, s1, s2, s3⟩
    go_simp
    with_reducible rfl
  rotate_left
  · simp only [Act.put, List.setIfInBounds_toArray, List.set_cons_zero, List.set_cons_succ]
    rfl
  refine one_ (i := 6) (N := some 36) #[true, true, true, true, true, true, true, false, false, false, false] rfl rfl (by kernel_rfl) (by decide) (fun K hK => ?_)
  refine event_step (v := .slice (some ⟨wz.drew.heap.size, 0, none⟩) 1 1) (w1 := wz.drew.alloc (.cells (pk p).toArray 27)) (by rfl) (by first | (go_simp; done) | (go_simp; rfl)) ?_
  have hq0 : IsNet (wz.drew.alloc (.cells (pk p).toArray 27)) w0.heap.size g (.slice Av n.l.length cv) { n with a := wrap64 (n.a + 1) } := HZ.out.drew.alloc _
  have hq1 : Aside0 (Below w0.heap.size w0 (wz.drew.alloc (.cells (pk p).toArray 27))) := ⟨HBz.out.drew.alloc (by simpa using HBz.out.size) _⟩
  have hq2 : Aside0 (NetKeep w (wz.drew.alloc (.cells (pk p).toArray 27)) g (.slice Av n.l.length cv) (.slice Av n.l.length cv)) := ⟨HKz.out.drew.alloc _⟩
  have hq3 : Aside0 ((wz.drew.alloc (.cells (pk p).toArray 27)).heap[gb]? = some (.cells (pk p).toArray 27 (0, 0))) := ⟨blk_alloc (show wz.drew.heap[gb]? = _ from hbz.out) _⟩
  have hq4 : Aside0 ((wz.drew.alloc (.cells (pk p).toArray 27)).heap[wz.drew.heap.size]? = some (.cells (pk p).toArray 27 (0, 0))) := ⟨heap_alloc_new _ _⟩
  generalize wz.drew.alloc (.cells (pk p).toArray 27) = w5 at hq0 hq1 hq2 hq3 hq4 ⊢
  generalize wz.drew.heap.size = gr at hq4 ⊢
  refine hK.out _ _ ⟨(blk_cell hq3.out 0).trans rfl, (blk_cell hq3.out 1).trans rfl, (blk_cell hq3.out 2).trans rfl, cell_v hq0⟩ (fun hHeld => ?_)
  clear hK K
  refine norm_ (a' := ?_) ?_ ?_
  rotate_left
  · show Act.put _ (some 36) _ = _
    simp only [Act.put, List.setIfInBounds_toArray, List.set_cons_zero, List.set_cons_succ]
    rfl
  refine one_ (i := 7) (N := some 37) #[true, true, true, true, true, true, true, true, false, false, false] rfl rfl (by kernel_rfl) (by decide) (fun K hK => ?_)
  refine step_append_lies _ (by rfl) _ _ _ (by rfl) w0.heap.size 27 i27 _ 3 32 Try.underlying48 hi hz0 hz1 hz2 rfl (by omega) (.slice Av n.l.length cv) n.l.length (pks n.l) (by rfl) hq0.row _ 1 1 (pk p) (by rfl) (by rfl) (World.news_of_block hq4.out) (pk_oneCell p) (by omega) (by have := Hl.out; simp [maxLen]; omega) (by have := Hl.out; omega) hq1.out.size _ rfl ?_
  intro gn cap w2 hown2 hgrow hat hlt
  have hx3 : Aside0 (w2.heap[gb]? = some (.cells (pk p).toArray 27 (0, 0))) := ⟨(hgrow.block _ (blk_lt hq3.out) hneb.out).trans hq3.out⟩
  have hx0 : Aside0 (w2.heap[g]? = some (.cells (netCells (.slice Av n.l.length cv) { n with a := wrap64 (n.a + 1) }) 56 (0, 0))) := ⟨(hgrow.block _ hq0.lt hq0.ne).trans hq0.blk⟩
  refine hK.out _ _ ⟨(blk_cell hx3.out 0).trans rfl, (blk_cell hx3.out 1).trans rfl, (blk_cell hx3.out 2).trans rfl, (blk_cell hx0.out 0).trans rfl⟩ (fun hHeld => ?_)
  clear hK K
  refine norm_ (a' := ?_) ?_ ?_
  rotate_left
  · show Act.put _ (some 37) _ = _
    simp only [Act.put, List.setIfInBounds_toArray, List.set_cons_zero, List.set_cons_succ]
    rfl
  refine pure_ (i := 8) (N := some 38) (v := ?_) (a' := ?_) #[true, true, true, true, true, true, true, true, true, false, false] rfl rfl (by kernel_rfl) (fun _ _ _ h => h) (Or.inl ⟨by rfl, ?_⟩) ?_ ?_
  rotate_left
  · intro w'
    go_simp
    with_reducible rfl
  rotate_left
  · simp only [Act.put, List.setIfInBounds_toArray, List.set_cons_zero, List.set_cons_succ]
    rfl
  refine pure_ (i := 9) (N := some 39) (v := ?_) (a' := ?_) #[true, true, true, true, true, true, true, true, true, true, false] rfl rfl (by kernel_rfl) (fun _ _ _ h => h) (Or.inl ⟨by rfl, ?_⟩) ?_ ?_
  rotate_left
  · intro w'
    go_simp
    with_reducible rfl
  rotate_left
  · simp only [Act.put, List.setIfInBounds_toArray, List.set_cons_zero, List.set_cons_succ]
    rfl
  refine last_ (i := 10) (N := none) #[true, true, true, true, true, true, true, true, true, true, true] rfl rfl (by kernel_rfl) (by decide) (fun K hK => ?_)
  have hfr := blk_frozen hx0.out 0
  have hcl := (blk_cell hx0.out 0).trans rfl
  refine skip_ (w1 := ?_) (by rfl) rfl ?_ ?_
  rotate_left
  · go_simp
    rfl
  refine hK.out _ _ ?_
  clear hK K
  refine done_ (by kernel_rfl) ?_
  clear hfr hcl hHeld cx0 cx1 cx2 cv0
  go_wp2
  go_ret
  have hlen : (n.l ++ [p]).length = n.l.length + 1 := by simp
  have hown3 : w2.ownsRow w0.heap.size 27 3 (.slice (some ⟨gn, 0, none⟩) (n.l.length + 1) cap) (n.l ++ [p]).length (pks (n.l ++ [p])) := by rw [hlen, pks_append]; exact hown2
  refine ⟨_, rfl, IsNet.setRow (n := { n with a := wrap64 (n.a + 1) }) hq0.ge hx0.out hown3 hq0.cl (by have := Hl.out; omega) ?_, ?_, ?_⟩
  · intro q hq
    rcases List.mem_append.1 hq with hq | hq
    · exact hq0.ok q hq
    · obtain rfl := List.mem_singleton.1 hq
      exact Hp.out
  · exact (hq1.out.grown hgrow hq1.out.size (fun k hk => (own_lt' hq0.row k hk))).setCell hq0.ge _
  · refine (hq2.out.grown hgrow ?_).set _ _
    rcases hat with e | e
    · exact .inl e.symm
    · exact .inr ⟨gn, rfl, Nat.le_of_eq e.symm⟩
theorem wires_Double.out (base g : Nat) (v : Value) (n : NetS) (i : Int) (w : World) (h : IsNet w base g v n) (h0 : i < 0 ∨ (n.l.length : Int) ≤ i) :
    Calls Try.prog 12 #[.pointer (some ⟨g, 0, none⟩), .int .i64 i] w fun e w' => e = .returned (.bool false) ∧ Below w.heap.size w w' := by
  have H := Aside0.mk h
  have H0 := Aside0.mk h0
  clear h h0
  go_enter Try.func12, Try.ntmps12
  go_wp2_with (first
    | (go_at_call 20; (refine (wires_At.out _ _ _ _ _ _ H.out H0.out).mono ?_); rintro e w1 ⟨rfl, hb⟩
       have HB := Aside0.mk hb
       clear hb))
  go_ret
  exact ⟨rfl, below_alloc HB.out _⟩
theorem wires_Double.full (base g : Nat) (v : Value) (n : NetS) (i : Int) (w : World) (h : IsNet w base g v n) (h0 : 0 ≤ i) (h1 : i < n.l.length) (hl : 4096 ≤ n.l.length) :
    Calls Try.prog 12 #[.pointer (some ⟨g, 0, none⟩), .int .i64 i] w fun e w' => e = .returned (.bool false) ∧ Below w.heap.size w w' := by
  obtain ⟨Av, cv, rfl⟩ := own_slice h.row
  have H := Aside0.mk h
  have H01 := Aside0.mk (And.intro h0 h1)
  have dl : decide ((4096 : Int) ≤ (n.l.length : Int)) = true := decide_eq_true (by omega)
  clear h h0 h1 hl
  go_enter Try.func12, Try.ntmps12
  go_wp2_with (first
    | (go_at_call 20; (refine (wires_At.calls _ g _ n i _ H.out H01.out.1 H01.out.2 _ rfl).mono ?_); rintro e w1 ⟨rfl, hb⟩
       have H1 := Aside0.mk (H.out.below hb)
       have HB := Aside0.mk hb
       have hg0 := cell_v H1.out
       have hgl := H1.out.lt
       clear hb))
  go_ret
  exact ⟨rfl, below_alloc HB.out _⟩
end Go.Proofs.Ytodkackgdchocaa.Q
