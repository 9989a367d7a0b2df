/- A row of bytes that a conversion of a text has made: it bears the conversion's mark behind its last cell, where nothing is stored; it is read, stored into and appended to as a row of one's own. For every world; no conditions. -/
import Derived.Test.YtpgbkeaaklglkaaGreatDoorWWords
import Derived.Test.YtpgbkeaaklglkaaGreatDoorWMore
import Derived.Lib.AppendStr
import Derived.Lib.FrozenHead
namespace Go.Proofs.YtpgbkeaaklglkaaGreatDoor.Marked
open Go.RowKit Go.Proofs.YtpgbkeaaklglkaaGreatDoorW.PrintWords
set_option linter.unusedVariables false

/-- Nothing of the first cells is frozen. -/
def Un (fz : Nat × Nat) (cap : Nat) : Prop := ∀ j, j < cap → ¬ (fz.1 ≤ j ∧ j < fz.2)
theorem un_zero (cap : Nat) : Un (0, 0) cap := fun j _ h => absurd h.2 (Nat.not_lt_zero j)

/-- The value 'v' owns a row of bytes 'xs', marked or not. -/
def RM (e : Nat) (w : World) (base : Nat) (ok : Nat → Prop) (v : Value) (xs : List Int) : Prop :=
 ∃ g cap cur fz, v = .slice (some ⟨g, 0, none⟩) xs.length cap ∧ ok g ∧ base ≤ g ∧ w.heap[g]? = some (.cells cur e fz) ∧ Un fz cap ∧ xs.length ≤ cap ∧ cap ≤ maxLen ∧ cur.size = cap ∧ cur.toList.take xs.length = nums .u8 xs
section
variable {e base : Nat} {w w1 : World} {ok ok' : Nat → Prop} {v : Value} {xs : List Int}
theorem RM_step (h : RM e w base ok v xs) (hm : ∀ k, ok k → k < w.heap.size → w1.heap[k]? = w.heap[k]?) : RM e w1 base ok v xs := by
 obtain ⟨g, cap, cur, fz, hv, ho, hb, hg, r⟩ := h
 exact ⟨g, cap, cur, fz, hv, ho, hb, (hm g ho (Array.getElem?_eq_some_iff.1 hg).1).trans hg, r⟩
theorem RM_below (h : RM e w base ok v xs) (hb : Below w.heap.size w w1) : RM e w1 base ok v xs := RM_step h (fun k _ hk => hb.block k hk)
theorem RM_alloc (h : RM e w base ok v xs) (o : Obj) : RM e (w.alloc o) base ok v xs := RM_below h (below_alloc (Below.refl _ _) o)
theorem RM_drewN (h : RM e w base ok v xs) (n : Nat) : RM e (w.drewN n) base ok v xs := h
theorem RM_drew (h : RM e w base ok v xs) : RM e w.drew base ok v xs := h
theorem RM_mono (h : RM e w base ok v xs) (hok : ∀ k, ok k → ok' k) : RM e w base ok' v xs := by
 obtain ⟨g, cap, cur, fz, hv, ho, r⟩ := h
 exact ⟨g, cap, cur, fz, hv, hok g ho, r⟩
theorem RM_lower {base' : Nat} (h : RM e w base ok v xs) (hb : base' ≤ base) : RM e w base' ok v xs := by
 obtain ⟨g, cap, cur, fz, hv, ho, hbg, r⟩ := h
 exact ⟨g, cap, cur, fz, hv, ho, Nat.le_trans hb hbg, r⟩
theorem RM_slice (h : RM e w base ok v xs) : ∃ A c, v = .slice A xs.length c := by
 obtain ⟨g, cap, cur, fz, rfl, _⟩ := h
 exact ⟨_, _, rfl⟩
theorem RM_form (h : RM e w base ok v xs) (hp : 0 < xs.length) : ∃ g cap, v = .slice (some ⟨g, 0, none⟩) xs.length cap ∧ base ≤ g ∧ g < w.heap.size ∧ True ∧ True := by
 obtain ⟨g, cap, cur, fz, rfl, ho, hb, hg, r⟩ := h
 exact ⟨g, cap, rfl, hb, (Array.getElem?_eq_some_iff.1 hg).1, trivial, trivial⟩
theorem RM_cells {g n cap : Nat} (h : RM e w base ok (.slice (some ⟨g, 0, none⟩) n cap) xs) (j : Nat) (u : Value) (hu : (nums .u8 xs)[j]? = some u) : w.cell? ⟨g, j, none⟩ = some u := by
 obtain ⟨g', cap', cur, fz, hv, ho, hb, hg, hun, hl, hm, hs, ht⟩ := h
 injection hv with h1 h2 h3
 injection h1 with h1
 injection h1 with h1
 subst h1
 rw [cell_of_row w g j cur e fz hg]
 rw [← ht, List.getElem?_take] at hu
 split at hu
 ·simpa using hu
 ·cases hu
theorem RM_celln (d : Int) {g n cap : Nat} (h : RM e w base ok (.slice (some ⟨g, 0, none⟩) n cap) xs) (i : Int) (h0 : 0 ≤ i) (hi : i < n) : w.cell? ⟨g, i.toNat, none⟩ = some (.int .u8 (rd xs i)) ∧ w.frozen? ⟨g, i.toNat, none⟩ = false := by
 have hn : n = xs.length := by obtain ⟨_, _, _, _, hv, _⟩ := h; injection hv
 constructor
 ·refine RM_cells h i.toNat _ ?_
  simp [nums, rd, List.getElem?_eq_getElem (show i.toNat < xs.length by omega), List.getD_eq_getElem?_getD]
 ·obtain ⟨g', cap', cur, fz, hv, ho, hb, hg, hun, hl, hm, hs, ht⟩ := h
  injection hv with h1 h2 h3
  injection h1 with h1
  injection h1 with h1
  subst h1
  have := hun i.toNat (by omega)
  obtain ⟨lo, hi'⟩ := fz
  simp only [World.frozen?, hg]
  simp only at this
  simpa [Bool.and_eq_false_iff] using this
theorem RM_putg {g n cap : Nat} (h : RM e w base ok (.slice (some ⟨g, 0, none⟩) n cap) xs) (i : Int) (x : Int) : RM e (w.setCell ⟨g, i.toNat, none⟩ (.int .u8 x)) base ok (.slice (some ⟨g, 0, none⟩) n cap) (xs.set i.toNat x) ∧ w.grownBy (w.setCell ⟨g, i.toNat, none⟩ (.int .u8 x)) (some g) := by
 obtain ⟨g', cap', cur, fz, hv, ho, hb, hg, hun, hl, hm, hs, ht⟩ := h
 injection hv with h1 h2 h3
 injection h1 with h1
 injection h1 with h1
 subst h1 h2 h3
 refine ⟨⟨g, cap, cur.setIfInBounds i.toNat (.int .u8 x), fz, by rw [List.length_set], ho, hb, ?_, hun, by rw [List.length_set]; exact hl, hm, by rw [Array.size_setIfInBounds]; exact hs, ?_⟩, ⟨rfl, rfl, rfl, by simp [World.setCell], fun k hk hne => ?_⟩⟩
 ·simp [World.setCell, Array.getElem?_modify, hg]
 ·rw [List.length_set, Array.toList_setIfInBounds, List.take_set, ht]
  simp [nums, List.map_set]
 ·exact Below.heap_setCell w _ _ k (by intro e; exact hne (by rw [e]))
theorem RM_reads (h : RM e w base ok v xs) : ∃ A c, v = .slice A xs.length c ∧ ReadsInt w .u8 A xs.length xs := by
 have h' := h
 obtain ⟨g, cap, cur, fz, rfl, ho, hb, hg, hun, hl, hm, hs, ht⟩ := h
 refine ⟨_, _, rfl, rfl, by unfold maxLen at hm; omega, fun _ => ⟨_, rfl, fun j hj => ?_⟩⟩
 rw [add_plain]
 refine RM_cells h' j _ ?_
 simp [nums, List.getElem?_eq_getElem hj, List.getD_eq_getElem?_getD]
theorem RM_string {P : Program} {e' src dst : TypeId} (hs : P.underlying src = some (.slice e')) (he : P.underlying e' = some (.int .u8)) (hd : P.underlying dst = some .string)
  (h : RM e w base ok v xs) : (convert src dst v).run P w = .ok (.string (strOfNums xs)) w := by
 obtain ⟨A, c, rfl, hr⟩ := RM_reads h
 exact string_of_reads hs he hd hr
theorem RM_stringN {P : Program} {e' src dst : TypeId} (hs : P.underlying src = some (.slice e')) (he : P.underlying e' = some (.int .u8)) (hd : P.underlying dst = some .string)
  (h : RM e w base ok v xs) (n : Nat) : (convert src dst v).run P (w.drewN n) = .ok (.string (strOfNums xs)) (w.drewN n) := RM_string hs he hd (RM_drewN h n)
theorem RM_reads' {A : Option Addr} {n c : Nat} (h : RM e w base ok (.slice A n c) xs) : n = xs.length ∧ n ≤ c ∧ (Kd.int .u8).C w A xs.length xs := by
 have h' := h
 obtain ⟨g, cap, cur, fz, hv, ho, hb, hg, hun, hl, hm, hs, ht⟩ := h
 injection hv with h1 h2 h3
 obtain ⟨A', c', hv', hr⟩ := RM_reads h'
 injection hv' with h4 h5 h6
 subst h4
 exact ⟨h2, by omega, Kd.C_of_reads (enc := Value.int .u8) (d := (0 : Int)) (h1 := fun _ => rfl) hr⟩
/-- a row of one's own is one -/
theorem RM_of_owns {n : Nat} (h : w.ownsRow base e 1 v n (nums .u8 xs)) (hne : v ≠ .slice none 0 0) (hok : ∀ k, v.ownBlock = some k → ok k) : RM e w base ok v xs := by
 have hn : xs.length = n := by have := h.1; simpa [nums] using this
 rcases h.2 with ⟨hv, _⟩ | ⟨g, cap, cur, rfl, hb, hg, hnc, hm, hs, ht⟩
 ·exact absurd hv hne
 ·subst hn
  exact ⟨g, cap, cur, (0, 0), rfl, hok g (by simp [Value.ownBlock]), hb, hg, un_zero _, hnc, hm, by simpa using hs, by simpa using ht⟩
end

/-- cells stored where nothing is frozen -/
theorem run_storeCells_atM (P : Program) (g o : Nat) (t : TypeId) (fz : Nat × Nat) (cap : Nat) (hun : Un fz cap) : ∀ (vs : List Value) (i : Nat) (cur : Array Value) (w : World), w.heap[g]? = some (.cells cur t fz) → cur.size = cap → o + i + vs.length ≤ cur.size → (∀ v ∈ vs, v.oneCell' = true) →
  (storeCells ⟨g, o, none⟩ vs i).run P w = .ok () (w.setRow g (cur.toList.take (o + i) ++ vs ++ cur.toList.drop (o + i + vs.length)).toArray)
 | [], i, cur, w, hg, _, _, _ => by
  simp only [storeCells, List.append_nil, List.length_nil, Nat.add_zero, List.take_append_drop, Array.toArray_toList]
  rw [setRow_self w g cur t fz hg]
  rfl
 | v :: rest, i, cur, w, hg, hc, hl, h1 => by
  have hi : o + i < cur.size := by simp at hl; omega
  have hadd : (⟨g, o, none⟩ : Addr).add i = ⟨g, o + i, none⟩ := by unfold Addr.add; split <;> simp_all
  have hcell : w.cell? ⟨g, o + i, none⟩ = some cur[o + i] := by simp [World.cell?, hg, hi]
  have hfro : w.frozen? ⟨g, o + i, none⟩ = false := by
   have := hun (o + i) (by omega)
   obtain ⟨lo, hi'⟩ := fz
   simp only [World.frozen?, hg]
   simp only at this
   simpa [Bool.and_eq_false_iff] using this
  have hst : (store ((⟨g, o, none⟩ : Addr).add i) v).run P w = .ok () (w.setRow g (cur.setIfInBounds (o + i) v)) := by
   rw [hadd, run_store P w _ v _ (h1 v (by simp)), hcell]
   simp [hfro, setCell_eq_setRow w g (o + i) cur t fz v hg]
  have ih := run_storeCells_atM P g o t fz cap hun rest (i + 1) (cur.setIfInBounds (o + i) v) (w.setRow g (cur.setIfInBounds (o + i) v)) (setRow_heap w g cur _ t _ hg) (by simpa using hc) (by simp at hl ⊢; omega) (fun x hx => h1 x (by simp [hx]))
  simp only [storeCells, Sem.run_bind, hst, Result.andThen_ok, ih, setRow_setRow]
  congr 3
  have e := list_seg_step cur.toList (o + i) v rest (by simp at hl ⊢; omega)
  simpa [Array.toList_setIfInBounds, Nat.add_assoc] using e

section
variable {P : Program} {w : World}
theorem RM_grown {e base : Nat} {ok : Nat → Prop} {g n cap : Nat} {xs ys : List Int} (hbase : base ≤ w.heap.size) (hok : ok w.heap.size) (old : Nat) (h63 : xs.length + ys.length ≤ maxLen) (row : Option Nat) :
  RM e (w.drew.alloc (.cells ((nums .u8 xs).toArray ++ (nums .u8 ys).toArray ++ Builtin.zeroCells (Value.int .u8 0).cells (grownCap w (xs.length + ys.length) old e - (xs.length + ys.length))) e)) base ok
   (.slice (some ⟨w.heap.size, 0, none⟩) (xs.length + ys.length) (grownCap w (xs.length + ys.length) old e)) (xs ++ ys) ∧
  w.grownBy (w.drew.alloc (.cells ((nums .u8 xs).toArray ++ (nums .u8 ys).toArray ++ Builtin.zeroCells (Value.int .u8 0).cells (grownCap w (xs.length + ys.length) old e - (xs.length + ys.length))) e)) row := by
 have hge := grownCap_ge w (xs.length + ys.length) old e
 have hcm : grownCap w (xs.length + ys.length) old e ≤ maxLen := grownCap_le_maxLen w _ old e h63
 refine ⟨⟨w.heap.size, _, _, (0, 0), by rw [List.length_append], hok, hbase, heap_alloc_new w.drew _, un_zero _, by rw [List.length_append]; exact hge, hcm, ?_, ?_⟩, ⟨rfl, rfl, rfl, by simp, fun k hk hne => (World.grownBy_alloc w.drew _ row).block k hk hne⟩⟩
 ·have hz1 : (Value.int IntKind.u8 0).cells.size = 1 := rfl
  simp only [Array.size_append, List.size_toArray, size_zeroCells, hz1, nums_length]
  omega
 ·rw [nums_append, List.length_append]
  simp only [Array.toList_append, List.append_assoc]
  rw [← List.append_assoc]
  have : xs.length + ys.length = (nums .u8 xs ++ nums .u8 ys).length := by rw [List.length_append, nums_length, nums_length]
  rw [this]
  exact List.take_left
theorem RM_room {e base : Nat} {ok : Nat → Prop} {g cap : Nat} {cur : Array Value} {fz : Nat × Nat} {xs ys : List Int} (ho : ok g) (hb : base ≤ g) (hg : w.heap[g]? = some (.cells cur e fz)) (hun : Un fz cap) (hm : cap ≤ maxLen) (hs : cur.size = cap) (ht : cur.toList.take xs.length = nums .u8 xs) (hroom : xs.length + ys.length ≤ cap) :
  RM e (w.setRow g (cur.toList.take xs.length ++ nums .u8 ys ++ cur.toList.drop (xs.length + ys.length)).toArray) base ok (.slice (some ⟨g, 0, none⟩) (xs.length + ys.length) cap) (xs ++ ys) ∧
  w.grownBy (w.setRow g (cur.toList.take xs.length ++ nums .u8 ys ++ cur.toList.drop (xs.length + ys.length)).toArray) (some g) := by
 refine ⟨⟨g, cap, _, fz, by rw [List.length_append], ho, hb, setRow_heap w g cur _ e _ hg, hun, by rw [List.length_append]; exact hroom, hm, ?_, ?_⟩, ⟨rfl, rfl, rfl, by simp, fun k _ hk => setRow_other w g k _ (fun e => hk (by rw [e]))⟩⟩
 ·simp only [List.size_toArray, List.length_append, List.length_take, List.length_drop, Array.length_toList, nums_length]
  omega
 ·rw [ht, nums_append, List.length_append]
  have : xs.length + ys.length = (nums .u8 xs ++ nums .u8 ys).length := by rw [List.length_append, nums_length, nums_length]
  rw [this]
  exact List.take_left
/-- append(v, ys...), ys in a new box -/
theorem run_appendM (base : Nat) (t ty e : TypeId) (i : TypeInfo) (ht : P.underlying t = some (.slice e)) (hi : P.info? e = some i) (hz : i.zero = some (.int .u8 0)) (hsize : i.size = 1) (hby : i.bytes = 1)
  (ok : Nat → Prop) (v : Value) (xs ys : List Int) (h : RM e w base ok v xs) (hok : ok w.heap.size)
  (a : Addr) (c : Nat) (hnews : ∀ j u, (nums .u8 ys)[j]? = some u → w.cell? (a.add j) = some u)
  (hbytes : xs.length + ys.length ≤ 140737488355328) (hbase : base ≤ w.heap.size) :
  ∃ v' w', (Builtin.append_ #[t, t] ty #[v, .slice (some a) ys.length c]).run P w = .ok v' w' ∧ RM e w' base ok v' (xs ++ ys) ∧ w.grownBy w' v.ownBlock ∧ (v'.ownBlock = v.ownBlock ∨ ∃ b, v'.ownBlock = some b ∧ w.heap.size ≤ b) := by
 have h' := h
 obtain ⟨g, cap, cur, fz, rfl, ho, hb, hg, hun, hl, hm, hs, htk⟩ := h
 have h1 : ∀ u ∈ nums .u8 ys, u.oneCell' = true := by
  intro u hu
  simp only [nums, List.mem_map] at hu
  obtain ⟨x, _, rfl⟩ := hu
  rfl
 by_cases hroom : xs.length + ys.length ≤ cap
 ·have hf := run_firstCells_some (P := P) w i.size ys.length a ys.length c (nums .u8 ys) (by rw [hsize, nums_length, Nat.mul_one]) hnews
  have hst := run_storeCells_atM P g xs.length e fz cap hun (nums .u8 ys) 0 cur w hg hs (by rw [nums_length]; omega) h1
  simp only [Nat.add_zero, nums_length] at hst
  obtain ⟨r1, r2⟩ := RM_room (w := w) (base := base) (ok := ok) ho hb hg hun hm hs htk hroom
  refine ⟨_, _, ?_, r1, r2, .inl rfl⟩
  rw [hsize] at hf
  simp [Builtin.append_, run_underlying ht, sizeOf, typeInfo, hi, hsize, Builtin.lenOf, hroom, hf, Addr.add_lit, hst]
 ·have holds : ∀ j u, (nums .u8 xs)[j]? = some u → w.cell? ((⟨g, 0, none⟩ : Addr).add j) = some u := fun j u hu => by rw [add_plain]; exact RM_cells h' j u hu
  have hr := run_append_grow (P := P) w t ty e i (.int .u8 0) ht hi hz ⟨g, 0, none⟩ xs.length cap (nums .u8 xs) (by rw [hsize, nums_length, Nat.mul_one]) holds a ys.length c (nums .u8 ys) (by rw [hsize, nums_length, Nat.mul_one]) hnews (by omega) (by omega) (by rw [hby]; exact growslice_fits (by omega) (by omega))
  obtain ⟨r1, r2⟩ := RM_grown (w := w) (e := e) (base := base) (ok := ok) (g := g) (n := 0) (cap := cap) (xs := xs) (ys := ys) hbase hok cap (by unfold maxLen; omega) (some g)
  exact ⟨_, _, hr, r1, r2, .inr ⟨w.heap.size, rfl, Nat.le_refl _⟩⟩
/-- append(v, s...), s a text -/
theorem run_appendstrM (base : Nat) (t u ty e : TypeId) (i : TypeInfo) (ht : P.underlying t = some (.slice e)) (hu : P.underlying u = some .string) (hi : P.info? e = some i) (hz : i.zero = some (.int .u8 0)) (hsize : i.size = 1) (hby : i.bytes = 1)
  (ok : Nat → Prop) (v : Value) (xs : List Int) (y : ByteArray) (h : RM e w base ok v xs) (hok : ok w.heap.size) (hbytes : xs.length + y.size ≤ 140737488355328) (hbase : base ≤ w.heap.size) :
  ∃ v' w', (Builtin.append_ #[t, u] ty #[v, .string y]).run P w = .ok v' w' ∧ RM e w' base ok v' (xs ++ bytesOf y) ∧ w.grownBy w' v.ownBlock := by
 have h' := h
 obtain ⟨g, cap, cur, fz, rfl, ho, hb, hg, hun, hl, hm, hs, htk⟩ := h
 have hc : nums .u8 (bytesOf y) = Lib.strCells y := by simp [nums, bytesOf, Lib.strCells]
 have hly := bytesOf_length y
 by_cases hroom : xs.length + y.size ≤ cap
 ·have hf := Lib.run_firstCells_string (P := P) w 1 y
  have hst := run_storeCells_atM P g xs.length e fz cap hun (Lib.strCells y) 0 cur w hg hs (by rw [Lib.strCells_length]; omega) (Lib.strCells_oneCell y)
  simp only [Nat.add_zero, Lib.strCells_length] at hst
  obtain ⟨r1, r2⟩ := RM_room (w := w) (base := base) (ok := ok) (ys := bytesOf y) ho hb hg hun hm hs htk (by rw [hly]; exact hroom)
  rw [hc, hly] at r1 r2
  refine ⟨_, _, ?_, r1, r2⟩
  simp [Builtin.append_, run_underlying ht, run_underlying hu, sizeOf, typeInfo, hi, hsize, Builtin.lenOf, hroom, hf, Addr.add_lit, hst]
 ·have holds : ∀ j u, (nums .u8 xs)[j]? = some u → w.cell? ((⟨g, 0, none⟩ : Addr).add j) = some u := fun j u hu => by rw [add_plain]; exact RM_cells h' j u hu
  have hr := Lib.run_append_grow_string (P := P) w t u ty e i (.int .u8 0) ht hu hi hz ⟨g, 0, none⟩ xs.length cap (nums .u8 xs) (by rw [hsize, nums_length, Nat.mul_one]) holds y (by omega) (by omega) (by rw [hby]; exact growslice_fits (by omega) (by omega))
  obtain ⟨r1, r2⟩ := RM_grown (w := w) (e := e) (base := base) (ok := ok) (g := g) (n := 0) (cap := cap) (xs := xs) (ys := bytesOf y) hbase hok cap (by rw [hly]; unfold maxLen; omega) (some g)
  rw [hc, hly] at r1 r2
  exact ⟨_, _, hr, r1, r2⟩
end
section
variable {P : Program} {ops : Array Oper} {rest : List Oper} {o : Oper} {a : Act} {Q : Exit → Act → World → Prop}
/-- '[]byte(s)', for the walk. -/
theorem RM_conv {w0 W : World} (base e : Nat) (hgd : o.guard = none) {N : Tmp} (_hd : o.dst = some N) (src dst : TypeId) (x : Operand) (ho : o.op = .convert src dst x) (s : ByteArray) (hx : a.eval x = .string s)
  {u : TypeDesc} (hs : P.underlying src = some u) (ht : P.underlying dst = some (.slice e)) (he : P.underlying e = some (.int .u8)) {ok : Nat → Prop} (hok : ok W.heap.size) (hl : s.size ≤ 9223372036854775807) (HB : Below base w0 W) (hbase : base ≤ W.heap.size)
  (h : ∀ v1 w1, RM e w1 base ok v1 (bytesOf s) → Below base w0 w1 → W.grownBy w1 none → (∃ b, v1.ownBlock = some b ∧ W.heap.size ≤ b) → wpList P ops Q rest (a.put o.dst v1) w1) : wpList P ops Q (o :: rest) a W := by
 have hr := print_bytes (P := P) src dst e hs ht he s W
 have hge := grownCap_ge W s.size 0 e
 have hcm : grownCap W s.size 0 e ≤ maxLen := grownCap_le_maxLen W s.size 0 e (by unfold maxLen; omega)
 have hcs : (Lib.bytesCells W e s).size = grownCap W s.size 0 e := by
  have : s.data.size = s.size := rfl
  simp only [Lib.bytesCells, Array.size_append, Array.size_map, Array.size_replicate]
  omega
 refine Kd.event_run (v := .slice (some ⟨W.heap.size, 0, none⟩) s.size (grownCap W s.size 0 e)) (w1 := Lib.bytesWorld W e s) hgd (by simp [execOp, ho, hx, hr]) (h _ _ ?_ (bytes_below HB hbase e s) ⟨rfl, rfl, rfl, by rw [Lib.bytesWorld_size]; omega, fun k hk _ => Lib.bytesWorld_at_old W e s k hk⟩ ⟨W.heap.size, rfl, Nat.le_refl _⟩)
 refine ⟨W.heap.size, _, _, _, by rw [bytesOf_length], hok, hbase, Lib.bytesWorld_at_new W e s, ?_, by rw [bytesOf_length]; exact hge, hcm, hcs, ?_⟩
 ·rw [hcs]
  intro j hj h
  omega
 ·have hl2 : (bytesOf s).length = (s.data.map fun b => Value.int .u8 b.toNat).size := by rw [bytesOf_length]; simp
  rw [Lib.bytesCells, Array.toList_append, hl2, ← Array.length_toList, List.take_left]
  simp [nums, bytesOf]
/-- append(v, x), behind 'at_builtin'; as Kd.R_append -/
theorem RM_append (_d : Kd Int) {w0 W : World} (base : Nat) (hgd : o.guard = none) (s x : Operand) (t e : TypeId) (z : Value) (bytes : Nat)
  (ho : o.op = .call { callee := .builtin .append, args := #[s, x], argTypes := #[t, t] })
  (ht : P.underlying t = some (.slice e)) (hinfo : (P.info? e).map (fun i => (i.zero, i.size, i.bytes)) = some (some (.int .u8 0), 1, 1)) (hz : (0 : Nat) = 0) (hs0 : 0 < 1) (hb0 : 0 < 1)
  (v : Value) (xs : List Int) (p : Int) (cs : List Value) (ok okp : Nat → Prop) (hs : a.eval s = v) (hx : a.eval x = .slice (some ⟨W.heap.size, 0, none⟩) 1 1) (hp : cs = [.int .u8 p]) (hokp : ∀ k, okp k → ok k ∧ some k ≠ v.ownBlock) (hfresh : ∀ k, W.heap.size ≤ k → ok k)
  (HO : RM e W base ok v xs) (HB : Below base w0 W) (hbase : base ≤ W.heap.size) (hl : (xs.length + 1) * 1 ≤ 140737488355328)
  (h : ∀ v1 w1, RM e w1 base ok v1 (xs ++ [p]) → Below base w0 w1 → W.grownBy w1 v.ownBlock → (v1.ownBlock = v.ownBlock ∨ ∃ b, v1.ownBlock = some b ∧ W.heap.size ≤ b) → wpList P ops Q rest (a.put o.dst v1) w1) :
  wpList P ops Q (o :: rest) a (W.alloc (.cells cs.toArray e)) := by
 subst hp
 obtain ⟨i0, hi, hzz⟩ := Option.map_eq_some_iff.1 hinfo
 simp only [Prod.mk.injEq] at hzz
 obtain ⟨hz0, hz1, hz2⟩ := hzz
 refine wpList_plain hgd fun K hK => ?_
 have hsz : (W.alloc (.cells [Value.int .u8 p].toArray e)).heap.size = W.heap.size + 1 := by simp
 obtain ⟨v', w', hr, h2, h3, h4⟩ := run_appendM (P := P) (w := W.alloc (.cells [Value.int .u8 p].toArray e)) base t o.type e i0 ht hi hz0 hz1 hz2 ok v xs [p] (RM_alloc HO _) (hfresh _ (by omega)) ⟨W.heap.size, 0, none⟩ 1
  (fun j u hu => by
   rw [add_plain]
   cases j with
   | zero =>
    simp only [nums, List.map_cons, List.map_nil, List.getElem?_cons_zero, Option.some.injEq] at hu
    subst hu
    rw [cell_of_row _ _ 0 #[Value.int .u8 p] e (0, 0) (_root_.Go.heap_alloc_new W _)]
    rfl
   | succ j => simp [nums] at hu) (by simpa using hl) (by omega)
 unfold Oper.wp execOp
 simp only [ho, resolve, invoke, builtin, Sem.run_bind, Sem.run_pure, Result.andThen_ok, List.map_toArray, List.map_cons, List.map_nil, hs, hx]
 have hr' : (Builtin.append_ #[t, t] o.type #[v, .slice (some ⟨W.heap.size, 0, none⟩) 1 1]).run P (W.alloc (.cells [Value.int .u8 p].toArray e)) = .ok v' w' := hr
 rw [hr']
 have hvb : ∀ k, v.ownBlock = some k → base ≤ k := by
  obtain ⟨g, cap, cur, fz, rfl, _, hb, _⟩ := HO
  intro k hk
  simp [Value.ownBlock] at hk
  omega
 have hvl : ∀ k, v.ownBlock = some k → k < W.heap.size := by
  obtain ⟨g, cap, cur, fz, rfl, _, _, hg, _⟩ := HO
  intro k hk
  simp [Value.ownBlock] at hk
  subst hk
  exact (Array.getElem?_eq_some_iff.1 hg).1
 have hg2 : W.grownBy w' v.ownBlock := by
  have h5 := World.grownBy_alloc W (.cells [Value.int .u8 p].toArray e) v.ownBlock
  exact ⟨h3.os.trans h5.os, h3.tape.trans h5.tape, h3.output.trans h5.output, Nat.le_trans h5.size h3.size, fun k hk hne => (h3.block k (by omega) hne).trans (h5.block k hk hne)⟩
 refine hK _ _ (h v' w' h2 (HB.grown hg2 hbase hvb) hg2 ?_)
 rcases h4 with h4 | ⟨b, hb, hle⟩
 ·exact .inl h4
 ·exact .inr ⟨b, hb, by omega⟩
theorem RM_append_str {w0 W : World} (base : Nat) (hgd : o.guard = none) (s x : Operand) (t u e : TypeId)
  (ho : o.op = .call { callee := .builtin .append, args := #[s, x], argTypes := #[t, u] })
  (ht : P.underlying t = some (.slice e)) (hu : P.underlying u = some .string) (hinfo : (P.info? e).map (fun i => (i.zero, i.size, i.bytes)) = some (some (.int .u8 0), 1, 1)) {ok : Nat → Prop} (hfresh : ∀ k, W.heap.size ≤ k → ok k)
  (v : Value) (xs : List Int) (y : ByteArray) (hs : a.eval s = v) (hx : a.eval x = .string y)
  (HO : RM e W base ok v xs) (HB : Below base w0 W) (hbase : base ≤ W.heap.size) (hl : xs.length + y.size ≤ 140737488355328)
  (h : ∀ v1 w1, RM e w1 base ok v1 (xs ++ bytesOf y) → Below base w0 w1 → W.grownBy w1 v.ownBlock → wpList P ops Q rest (a.put o.dst v1) w1) :
  wpList P ops Q (o :: rest) a W := by
 obtain ⟨i0, hi, hzz⟩ := Option.map_eq_some_iff.1 hinfo
 simp only [Prod.mk.injEq] at hzz
 obtain ⟨hz0, hz1, hz2⟩ := hzz
 refine wpList_plain hgd fun K hK => ?_
 obtain ⟨v', w', hr, h2, h3⟩ := run_appendstrM (P := P) (w := W) base t u o.type e i0 ht hu hi hz0 hz1 hz2 ok v xs y HO (hfresh _ (Nat.le_refl _)) hl hbase
 unfold Oper.wp execOp
 simp only [ho, resolve, invoke, builtin, Sem.run_bind, Sem.run_pure, Result.andThen_ok, List.map_toArray, List.map_cons, List.map_nil, hs, hx, hr]
 have hvb : ∀ k, v.ownBlock = some k → base ≤ k := by
  obtain ⟨g, cap, cur, fz, rfl, _, hb, _⟩ := HO
  intro k hk
  simp [Value.ownBlock] at hk
  omega
 exact hK _ _ (h v' w' h2 (HB.grown h3 hbase hvb) h3)
end
end Go.Proofs.YtpgbkeaaklglkaaGreatDoor.Marked
