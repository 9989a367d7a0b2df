/- What comes in at any type, told by the kinds of the printed words: whole numbers, bools, texts, slices, structs and arrays of these; with their sizes. For every reading of the form; no conditions. -/
import Derived.Test.YtpgbkeaaklglkaaGreatDoorRows
import Derived.Test.YtpgbkeaaklglkaaGreatDoorWWords
import Derived.OpenShut
import Derived.ChangeArms
import Derived.SizedLaws
import Derived.Lib.SmallJoins
namespace Go.Proofs.YtpgbkeaaklglkaaGreatDoor.Open
open Go.RowKit Go.Proofs.YtpgbkeaaklglkaaGreatDoorW.PrintWords
set_option linter.unusedVariables false

/-- Whatever is read at a type is told by a value of the kind: its cells; that it is well made; how much is counted of it at the least. -/
def Opens {α : Type} (P : Program) (d : Kd α) (t : TypeId) (good : α → Prop) (bulk : α → Nat) : Prop :=
 ∀ {H : Type} (enc : TypeId × Value → H) (w : World) (base : Nat) (spare : Nat → Bool) (held : Bool) (fuel : Nat) (cs : List Value) (x : DataW H × List MemPlace),
  DataW.trod enc P w base spare held fuel t cs = some x → (DataW.weights P t x.1).all (· ≤ reachBytes) = true → ∃ a, d.K w a cs ∧ good a ∧ bulk a ≤ Rows.uptoBulk x.1

section
variable {P : Program} {t e : TypeId}

theorem opens_int {k : IntKind} (hu : P.underlying t = some (.int k)) : Opens P (Kd.int k) t (fun n => (Lit.int k n).wf = true) (fun _ => 1) := by
 intro H enc w base spare held fuel cs x h _
 obtain ⟨n, rfl, rfl, hw⟩ := DataW.trod_int hu h
 exact ⟨n, rfl, hw, by simp [Rows.uptoBulk]⟩
theorem opens_bool (hu : P.underlying t = some .bool) : Opens P Kd.bool t (fun _ => True) (fun _ => 1) := by
 intro H enc w base spare held fuel cs x h _
 obtain ⟨n, rfl, rfl⟩ := DataW.trod_bool hu h
 exact ⟨n, rfl, trivial, by simp [Rows.uptoBulk]⟩
theorem le_reach {l : List Nat} (h : l.all (· ≤ reachBytes) = true) {n : Nat} (hn : n ∈ l) : n ≤ 140737488351232 := by
 exact of_decide_eq_true (List.all_eq_true.1 h n hn)
theorem opens_str (hu : P.underlying t = some .string) : Opens P Kd.string t (fun s => s.size ≤ 140737488351232) (fun s => s.size + 1) := by
 intro H enc w base spare held fuel cs x h hz
 obtain ⟨s, rfl, rfl, hw⟩ := DataW.trod_string hu h
 have e : s.data.toList.length = s.size := by rw [Array.length_toList]; rfl
 have := le_reach hz (n := s.data.toList.length) (by simp [DataW.weights])
 exact ⟨s, rfl, by omega, by simp only [Rows.uptoBulk]; omega⟩

theorem weightsAll_at {H : Type} : ∀ (l : List (DataW H)), (DataW.weightsAll P e l).all (· ≤ reachBytes) = true → ∀ d ∈ l, (DataW.weights P e d).all (· ≤ reachBytes) = true := by
 intro l
 induction l with
 | nil => intro _ d hd; cases hd
 | cons x l ih =>
  intro h d hd
  rw [DataW.weightsAll, List.all_append, Bool.and_eq_true] at h
  rcases List.mem_cons.1 hd with rfl | hd
  ·exact h.1
  ·exact ih h.2 d hd
theorem bulkAll_map {H : Type} (l : List (DataW H)) : Rows.uptoBulkAll l = (l.map Rows.uptoBulk).sum := by
 induction l with
 | nil => rfl
 | cons x l ih => simp only [Rows.uptoBulkAll, List.map_cons, List.sum_cons, ih]
theorem sum_le {α β : Type} (f : α → Nat) (g : β → Nat) : ∀ (l : List α) (m : List β), l.length = m.length → (∀ (i : Nat) (a : α) (b : β), l[i]? = some a → m[i]? = some b → f a ≤ g b) → (l.map f).sum ≤ (m.map g).sum := by
 intro l
 induction l with
 | nil => intro m _ _; simp
 | cons a l ih =>
  intro m hl h
  cases m with
  | nil => simp at hl
  | cons b m =>
   simp only [List.map_cons, List.sum_cons]
   have := h 0 a b rfl rfl
   have := ih m (by simpa using hl) (fun i a b ha hb => h (i + 1) a b (by simpa using ha) (by simpa using hb))
   omega
theorem choose_list {α β : Type} (Q : Nat → β → α → Prop) : ∀ (m : List β) (o : Nat), (∀ (i : Nat) (y : β), m[i]? = some y → ∃ a, Q (o + i) y a) → ∃ l : List α, l.length = m.length ∧ ∀ (i : Nat) (a : α) (y : β), l[i]? = some a → m[i]? = some y → Q (o + i) y a := by
 intro m
 induction m with
 | nil => intro o _; exact ⟨[], rfl, fun i a y h => by simp at h⟩
 | cons y m ih =>
  intro o h
  obtain ⟨a, ha⟩ := h 0 y rfl
  obtain ⟨l, hl, hq⟩ := ih (o + 1) (fun i z hz => by obtain ⟨b, hb⟩ := h (i + 1) z (by simpa using hz); exact ⟨b, by rw [show o + 1 + i = o + (i + 1) by omega]; exact hb⟩)
  refine ⟨a :: l, by simp [hl], fun i b z hb hz => ?_⟩
  cases i with
  | zero =>
   obtain rfl : a = b := by simpa using hb
   obtain rfl : y = z := by simpa using hz
   exact ha
  | succ i =>
   have := hq i b z (by simpa using hb) (by simpa using hz)
   rw [show o + (i + 1) = o + 1 + i by omega]
   exact this
theorem add_add' (a : Addr) (i j : Nat) : (a.add i).add j = a.add (i + j) := by
 unfold Addr.add
 by_cases h1 : i = 0 <;> by_cases h2 : j = 0 <;> simp [h1, h2, Nat.add_assoc]
theorem opens_slice {α : Type} {d : Kd α} {good : α → Prop} {bulk : α → Nat} {B : Nat} (hu : P.underlying t = some (.slice e)) (hc : P.cellsOf e = d.sz) (hB : P.bytesOf e = B) (ho : Opens P d e good bulk) :
  Opens P (Kd.slice e d) t (fun l => l.length * B ≤ 140737488351232 ∧ ∀ a ∈ l, good a) (fun l => (l.map bulk).sum + 1) := by
 intro H enc w base spare held fuel cs x h hz
 rcases DataW.trod_slice hu h with ⟨rfl, rfl⟩ | ⟨ad, len, cap, elems, rest, n, _, rfl, rfl, hb, hl, hm, hlen, hel, _, _⟩
 ·exact ⟨[], ⟨none, 0, rfl, Nat.le_refl _, ⟨rfl, by simp, fun hp => absurd hp (by simp)⟩⟩, ⟨by simp, fun a ha => by cases ha⟩, by simp [Rows.uptoBulk]⟩
 ·have hz0 : ((elems.map (·.1)).length + (rest.map (·.1)).length) * P.bytesOf e ≤ 140737488351232 := le_reach hz (by simp [DataW.weights, hu])
  have hsub : (DataW.weightsAll P e (elems.map (·.1))).all (· ≤ reachBytes) = true := by
   have h1 := hz
   simp only [DataW.weights, hu] at h1
   rw [List.all_cons, Bool.and_eq_true, List.all_append, Bool.and_eq_true] at h1
   exact h1.2.1
  have each : ∀ (i : Nat) (y : DataW H × List MemPlace), elems[i]? = some y → ∃ a, (∃ c, c.length = d.sz ∧ d.K w a c ∧ ∀ (j : Nat) (u : Value), c[j]? = some u → w.cell? (ad.add ((0 + i) * d.sz + j)) = some u) ∧ good a ∧ bulk a ≤ Rows.uptoBulk y.1 := by
   intro i y hy
   have hi : i < len := by rw [← hlen]; exact (List.getElem?_eq_some_iff.1 hy).1
   have hr := hel i hi
   rw [hy] at hr
   obtain ⟨c, hc1, hc2⟩ := Option.bind_eq_some_iff.1 hr
   have hmem : y.1 ∈ elems.map (·.1) := List.mem_map_of_mem (List.mem_of_getElem? hy)
   obtain ⟨a, hK, hg, hbk⟩ := ho enc w base spare held n c y hc2 (weightsAll_at _ hsub _ hmem)
   have hcl : c.length = d.sz := d.K_len hK
   refine ⟨a, ⟨c, hcl, hK, fun j u hu' => ?_⟩, hg, hbk⟩
   have hj : j < c.length := (List.getElem?_eq_some_iff.1 hu').1
   have hcell := (World.cells?_some hc1).2.2 j (by rw [hc]; omega)
   rw [hc, add_add'] at hcell
   rw [Nat.zero_add, hcell, hu']
  obtain ⟨l, hll, hq⟩ := choose_list (fun i (y : DataW H × List MemPlace) a => (∃ c, c.length = d.sz ∧ d.K w a c ∧ ∀ (j : Nat) (u : Value), c[j]? = some u → w.cell? (ad.add (i * d.sz + j)) = some u) ∧ good a ∧ bulk a ≤ Rows.uptoBulk y.1) elems 0 each
  have at_ : ∀ (i : Nat) (a : α), l[i]? = some a → ∃ y, elems[i]? = some y := fun i a ha => by
   have hi : i < l.length := (List.getElem?_eq_some_iff.1 ha).1
   exact ⟨elems[i]'(by omega), List.getElem?_eq_getElem _⟩
  refine ⟨l, ⟨some ad, cap, by rw [hll, hlen], by rw [hll, hlen]; exact hl, ⟨rfl, by rw [hll, hlen]; unfold maxLen at hm; omega, fun _ => ⟨ad, rfl, fun j p hj => ?_⟩⟩⟩, ⟨?_, fun a ha => ?_⟩, ?_⟩
  ·obtain ⟨y, hy⟩ := at_ j p hj
   have := (hq j p y hj hy).1
   rwa [Nat.zero_add] at this
  ·rw [hB] at hz0
   simp only [List.length_map] at hz0
   rw [hll]
   exact Nat.le_trans (Nat.mul_le_mul_right _ (by omega)) hz0
  ·obtain ⟨i, hi⟩ := List.getElem?_of_mem ha
   obtain ⟨y, hy⟩ := at_ i a hi
   exact (hq i a y hi hy).2.1
  ·simp only [Rows.uptoBulk, bulkAll_map, List.map_map]
   have := sum_le bulk (Rows.uptoBulk ∘ fun (y : DataW H × List MemPlace) => y.1) l elems hll (fun i a b ha hb => (hq i a b ha hb).2.2)
   omega

/-- The fields of a struct from a place on, as nested pairs. -/
def OpensF {α : Type} (P : Program) (d : Kd α) (off : Nat) (fs : List Field) (good : α → Prop) (bulk : α → Nat) : Prop :=
 ∀ {H : Type} (enc : TypeId × Value → H) (w : World) (base : Nat) (spare : Nat → Bool) (held : Bool) (n : Nat) (cs : List Value) (xs : List (DataW H × List MemPlace)),
  off + d.sz ≤ cs.length → xs.length = fs.length →
  (∀ (i : Nat) (f : Field), fs[i]? = some f → DataW.trod enc P w base spare held n f.type ((cs.drop f.offset).take (P.cellsOf f.type)) = xs[i]?) →
  (DataW.weightsEach P (fs.map (·.type)) (xs.map (·.1))).all (· ≤ reachBytes) = true → ∃ a, d.K w a ((cs.drop off).take d.sz) ∧ good a ∧ bulk a ≤ Rows.uptoBulkAll (xs.map (·.1))
theorem fields_one {α : Type} {d : Kd α} {good : α → Prop} {bulk : α → Nat} {f : Field} {off : Nat} (hoff : f.offset = off) (hc : P.cellsOf f.type = d.sz) (ho : Opens P d f.type good bulk) : OpensF P d off [f] good bulk := by
 intro H enc w base spare held n cs xs hl hx h hz
 have h0 := h 0 f rfl
 match xs, hx with
 | [x], _ =>
  rw [hoff, hc] at h0
  have hz' : (DataW.weights P f.type x.1).all (· ≤ reachBytes) = true := by
   simp only [List.map_cons, List.map_nil, DataW.weightsEach, List.append_nil] at hz
   exact hz
  obtain ⟨a, hK, hg, hb⟩ := ho enc w base spare held n _ x h0 hz'
  exact ⟨a, hK, hg, by simp only [List.map_cons, List.map_nil, Rows.uptoBulkAll]; omega⟩
theorem fields_cons {α β : Type} {d : Kd α} {d' : Kd β} {good : α → Prop} {good' : β → Prop} {bulk : α → Nat} {bulk' : β → Nat} {f : Field} {fs : List Field} {off : Nat} (hoff : f.offset = off) (hc : P.cellsOf f.type = d.sz) (ho : Opens P d f.type good bulk)
  (ht : OpensF P d' (off + d.sz) fs good' bulk') : OpensF P (Kd.pair d d') off (f :: fs) (fun x => good x.1 ∧ good' x.2) (fun x => bulk x.1 + bulk' x.2) := by
 intro H enc w base spare held n cs xs hl hx h hz
 have h0 := h 0 f rfl
 match xs, hx with
 | x :: xs, hx =>
  rw [hoff, hc] at h0
  simp only [List.map_cons, DataW.weightsEach, List.all_append, Bool.and_eq_true] at hz
  have hsz : (Kd.pair d d').sz = d.sz + d'.sz := rfl
  obtain ⟨a, hK, hg, hb⟩ := ho enc w base spare held n _ x h0 hz.1
  obtain ⟨b, hK', hg', hb'⟩ := ht enc w base spare held n cs xs (by omega) (by simpa using hx) (fun i g hg => by have := h (i + 1) g (by simpa using hg); simpa using this) hz.2
  refine ⟨(a, b), ⟨_, _, ?_, hK, hK'⟩, ⟨hg, hg'⟩, by simp only [List.map_cons, Rows.uptoBulkAll]; omega⟩
  rw [hsz, List.take_add, List.drop_drop]
theorem opens_struct {α β : Type} {d : Kd α} {good : α → Prop} {bulk : α → Nat} {fs : Array Field} (f : β → α) (g : α → β) (hfg : ∀ a, f (g a) = a) (hu : P.underlying t = some (.struct fs)) (hc : P.cellsOf t = d.sz) (ho : OpensF P d 0 fs.toList good bulk) :
  Opens P (Kd.iso d f) t (fun x => good (f x)) (fun x => bulk (f x) + 1) := by
 intro H enc w base spare held fuel cs x h hz
 obtain ⟨xs, n, _, rfl, hl, hx, hf⟩ := DataW.trod_struct hu h
 have hz' : (DataW.weightsEach P (fs.toList.map (·.type)) (xs.map (·.1))).all (· ≤ reachBytes) = true := by
  simp only [DataW.weights, hu] at hz
  exact hz
 obtain ⟨a, hK, hg, hb⟩ := ho enc w base spare held n cs xs (by omega) (by simpa using hx) (fun i fl hfl => hf i fl (by simpa using hfl)) hz'
 have hK2 : d.K w (f (g a)) cs := by
  rw [hfg]
  simpa [← hc, ← hl] using hK
 exact ⟨g a, hK2, by show good (f (g a)); rw [hfg]; exact hg, by show bulk (f (g a)) + 1 ≤ _; rw [hfg]; simp only [Rows.uptoBulk]; omega⟩
/-- An array of two. -/
theorem opens_two {α : Type} {d : Kd α} {good : α → Prop} {bulk : α → Nat} (hu : P.underlying t = some (.array 2 e)) (hc : P.cellsOf e = d.sz) (hct : P.cellsOf t = d.sz + d.sz) (ho : Opens P d e good bulk) :
  Opens P (Kd.pair d d) t (fun x => good x.1 ∧ good x.2) (fun x => bulk x.1 + bulk x.2 + 1) := by
 intro H enc w base spare held fuel cs x h hz
 obtain ⟨xs, n, _, rfl, hl, hx, hf⟩ := DataW.trod_array hu h
 match xs, hx with
 | [x, y], _ =>
  have h0 := hf 0 (by omega)
  have h1 := hf 1 (by omega)
  have hz' : (DataW.weightsAll P e [x.1, y.1]).all (· ≤ reachBytes) = true := by
   simp only [DataW.weights, hu] at hz
   exact hz
  simp only [hc, Nat.zero_mul, List.drop_zero, Nat.one_mul] at h0 h1
  obtain ⟨a, hK, hg, hb⟩ := ho enc w base spare held n _ x h0 (weightsAll_at _ hz' _ (by simp))
  obtain ⟨b, hK', hg', hb'⟩ := ho enc w base spare held n _ y h1 (weightsAll_at _ hz' _ (by simp))
  refine ⟨(a, b), ⟨_, _, ?_, hK, hK'⟩, ⟨hg, hg'⟩, by simp only [List.map_cons, List.map_nil, Rows.uptoBulk, Rows.uptoBulkAll]; omega⟩
  have e2 : (cs.drop d.sz).take d.sz = cs.drop d.sz := List.take_of_length_le (by rw [List.length_drop]; omega)
  rw [e2, List.take_append_drop]
end
end Go.Proofs.YtpgbkeaaklglkaaGreatDoor.Open
namespace Go.Proofs.YtpgbkeaaklglkaaGreatDoor.Open
open Go.RowKit Go.Proofs.YtpgbkeaaklglkaaGreatDoorW.PrintWords Go.WideShapes
section
variable {P : Program} {t e : TypeId} {w : World} {r : Reach} {b0 : Nat} {v : Value}
theorem weights_at {H : Type} : ∀ (ts : List TypeId) (ds : List (DataW H)), (DataW.weightsEach P ts ds).all (· ≤ reachBytes) = true → ∀ (j : Nat) (t : TypeId) (d : DataW H), ts[j]? = some t → ds[j]? = some d → (DataW.weights P t d).all (· ≤ reachBytes) = true := by
 intro ts
 induction ts with
 | nil => intro ds _ j t d h; simp at h
 | cons t0 ts ih =>
  intro ds h j t d ht hd
  cases ds with
  | nil => simp at hd
  | cons d0 ds =>
   rw [DataW.weightsEach, List.all_append, Bool.and_eq_true] at h
   cases j with
   | zero =>
    obtain rfl : t0 = t := by simpa using ht
    obtain rfl : d0 = d := by simpa using hd
    exact h.1
   | succ j => exact ih ds h.2 j t d (by simpa using ht) (by simpa using hd)
theorem shape_int {k : IntKind} {a : Int} (hu : P.underlying t = some (.int k)) (hv : Value.okWide P w r b0 t v) (hK : (Kd.int k).K w a v.cells.toList) : v = .int k a := by
 obtain ⟨n, rfl⟩ := okWide_int hu hv
 have h : [Value.int k n] = [Value.int k a] := hK
 injection h with h
theorem shape_bool {a : Bool} (hu : P.underlying t = some .bool) (hv : Value.okWide P w r b0 t v) (hK : Kd.bool.K w a v.cells.toList) : v = .bool a := by
 obtain ⟨n, rfl⟩ := okWide_bool hu hv
 have h : [Value.bool n] = [Value.bool a] := hK
 injection h with h
theorem shape_str {a : ByteArray} (hu : P.underlying t = some .string) (hv : Value.okWide P w r b0 t v) (hK : Kd.string.K w a v.cells.toList) : v = .string a := by
 obtain ⟨n, rfl⟩ := okWide_string hu hv
 have h : [Value.string n] = [Value.string a] := hK
 injection h with h
theorem shape_slice {α : Type} {d : Kd α} {e' : Nat} {a : List α} (hu : P.underlying t = some (.slice e)) (hv : Value.okWide P w r b0 t v) (hK : (Kd.slice e' d).K w a v.cells.toList) : ∃ A c, v = .slice A a.length c ∧ a.length ≤ c ∧ d.C w A a.length a := by
 obtain ⟨A, l, c, rfl⟩ := okWide_slice hu hv
 obtain ⟨A', c', h, hl, hC⟩ := hK
 have h' : [Value.slice A l c] = [Value.slice A' a.length c'] := h
 injection h' with h'
 injection h' with h1 h2 h3
 subst h1 h2 h3
 exact ⟨A, c, rfl, hl, hC⟩
theorem shape_struct {fs : Array Field} (hu : P.underlying t = some (.struct fs)) (hv : Value.okWide P w r b0 t v) : ∃ cs, v = .agg cs := by
 obtain ⟨cs, rfl, _⟩ := okWide_struct hu hv
 exact ⟨cs, rfl⟩
theorem shape_array {n : Nat} (hu : P.underlying t = some (.array n e)) (hv : Value.okWide P w r b0 t v) : ∃ cs, v = .agg cs := by
 simp only [Value.okWide, hu] at hv
 obtain ⟨cs, h1, _⟩ := hv
 exact ⟨cs, h1⟩
/-- What the bound of the second form gives. -/
theorem bulk_bound {H : Type} {l : List (DataW H)} (hk : Rows.uptoSmall H l = true) : Rows.uptoBulkAll l ≤ 1048576 := of_decide_eq_true hk
end
end Go.Proofs.YtpgbkeaaklglkaaGreatDoor.Open
