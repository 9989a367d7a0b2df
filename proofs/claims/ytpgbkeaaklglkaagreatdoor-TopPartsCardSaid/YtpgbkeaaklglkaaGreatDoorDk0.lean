
/- The disk: files, a map of files, a disk in memory. -/
import Derived.Deep.RegionHeld3
import Derived.Deep.DrawnRows
import Derived.Outline
import Derived.Test.YtpgbkeaaklglkaaGreatDoorQd
import Derived.Maps.OwnSet
import Derived.Maps.StringElems
import Derived.Maps.Ext
import Derived.Maps.RangeWalk
import Derived.StringKeys
namespace Go.Proofs.YtpgbkeaaklglkaaGreatDoor.Q
open Go.Maps Go.WideShapes Go.WideMaps Go.RowKit Go.Proofs.YtpgbkeaaklglkaaGreatDoorW.PrintWords Go.Proofs.YtpgbkeaaklglkaaGreatDoorW.PrintLast Go.Proofs.YtpgbkeaaklglkaaGreatDoorW.PrintMore
set_option linter.unusedVariables false
set_option linter.unusedSimpArgs false
set_option maxHeartbeats 10000000
set_option maxRecDepth 100000
/-! files as a sorted list of names and bytes, and as the datum of a map -/
abbrev Fs := List (ByteArray × ByteArray)
abbrev DU := DataW Unit
def kn (s : ByteArray) : Lit := .string s.data.toList
def sameN (a b : ByteArray) : Bool := a.data.toList == b.data.toList
def ltN (a b : ByteArray) : Bool := bytesBefore a.data.toList b.data.toList
def dEnt (p : ByteArray × ByteArray) : Lit × DU := (kn p.1, .lit (.string p.2.data.toList))
def dOf (l : Fs) : DU := .map (l.map dEnt)
def insF (x : ByteArray × ByteArray) : Fs → Fs
 | [] => [x]
 | y :: r => if ltN x.1 y.1 = true then x :: y :: r else y :: insF x r
def delF (l : Fs) (n : ByteArray) : Fs := l.filter fun p => !sameN p.1 n
def putF (l : Fs) (n s : ByteArray) : Fs := insF (n, s) (delF l n)
def hasF (l : Fs) (n : ByteArray) : Bool := l.any fun p => sameN p.1 n
def getF (l : Fs) (n : ByteArray) : ByteArray := ((l.find? fun p => sameN p.1 n).map (·.2)).getD ⟨#[]⟩
theorem ba_inj {a b : ByteArray} (h : a.data.toList = b.data.toList) : a = b := by
 cases a with | mk x => cases b with | mk y => simp at h; rw [h]
theorem sameN_iff {a b : ByteArray} : sameN a b = true ↔ a = b := by
 unfold sameN
 rw [beq_iff_eq]
 exact ⟨ba_inj, fun h => by rw [h]⟩
theorem kn_same (a b : ByteArray) : (kn a).sameKey (kn b) = sameN a b := rfl
theorem dOf_ins (x : ByteArray × ByteArray) : ∀ l : Fs, DataW.insert (dEnt x) (l.map dEnt) = (insF x l).map dEnt
 | [] => rfl
 | y :: r => by
  rw [List.map_cons, DataW.insert, insF]
  by_cases h : ltN x.1 y.1 = true
  ·rw [if_pos h, if_pos (show (dEnt x).1.before (dEnt y).1 = true from h)]; rfl
  ·rw [if_neg h, if_neg (show ¬ (dEnt x).1.before (dEnt y).1 = true from h), dOf_ins x r]; rfl
theorem dOf_filter (l : Fs) (n : ByteArray) : (l.map dEnt).filter (fun p => !p.1.sameKey (kn n)) = (delF l n).map dEnt := by
 unfold delF
 rw [List.filter_map]
 rfl
theorem dOf_put (l : Fs) (n s : ByteArray) : (dOf l).put (kn n) (.lit (.string s.data.toList)) = dOf (putF l n s) := by
 unfold dOf putF
 rw [DataW.put, dOf_filter]
 exact congrArg DataW.map (dOf_ins (n, s) _)
theorem dOf_del (l : Fs) (n : ByteArray) : (dOf l).del (kn n) = dOf (delF l n) := by
 unfold dOf
 rw [DataW.del, dOf_filter]
theorem dOf_find : ∀ (l : Fs) (n : ByteArray), (l.map dEnt).find? (fun p => p.1.sameKey (kn n)) = (l.find? fun p => sameN p.1 n).map dEnt
 | [], _ => rfl
 | p :: l, n => by
  rw [List.map_cons, List.find?_cons, List.find?_cons]
  by_cases h : sameN p.1 n = true
  ·rw [show (dEnt p).1.sameKey (kn n) = true from h, h]; rfl
  ·rw [Bool.not_eq_true] at h
   rw [show (dEnt p).1.sameKey (kn n) = false from h, h]; exact dOf_find l n
theorem dOf_at (l : Fs) (n : ByteArray) : (dOf l).atKey (kn n) (.lit (.string [])) = .lit (.string (getF l n).data.toList) := by
 unfold dOf getF
 rw [DataW.atKey, dOf_find]
 cases l.find? fun p => sameN p.1 n with
 | none => rfl
 | some p => rfl
theorem dOf_has (l : Fs) (n : ByteArray) : Maps.has (dOf l) (kn n) = hasF l n := by
 unfold dOf hasF
 rw [Maps.has_eq, List.any_map]
 rfl
theorem dOf_size (l : Fs) : Maps.size (dOf l) = l.length := by
 unfold dOf
 rw [Maps.size_eq, List.length_map]
theorem hasF_iff {l : Fs} {n : ByteArray} : hasF l n = true ↔ ∃ p ∈ l, p.1 = n := by
 unfold hasF
 rw [List.any_eq_true]
 exact ⟨fun ⟨p, hp, h⟩ => ⟨p, hp, sameN_iff.1 h⟩, fun ⟨p, hp, h⟩ => ⟨p, hp, sameN_iff.2 h⟩⟩
/-! how many, how great -/
def totF (l : Fs) : Nat := (l.map fun p => p.2.size).sum
theorem insF_len (x : ByteArray × ByteArray) : ∀ l : Fs, (insF x l).length = l.length + 1
 | [] => rfl
 | y :: r => by
  rw [insF]
  split
  ·rfl
  ·rw [List.length_cons, insF_len x r]; rfl
theorem insF_tot (x : ByteArray × ByteArray) : ∀ l : Fs, totF (insF x l) = x.2.size + totF l
 | [] => by simp [insF, totF]
 | y :: r => by
  rw [insF]
  have h := insF_tot x r
  unfold totF at h ⊢
  split
  ·simp
  ·simp only [List.map_cons, List.sum_cons]; omega
theorem mem_insF {x p : ByteArray × ByteArray} : ∀ {l : Fs}, p ∈ insF x l ↔ p = x ∨ p ∈ l
 | [] => by simp [insF]
 | y :: r => by
  rw [insF]
  split
  ·simp
  ·rw [List.mem_cons, mem_insF, List.mem_cons]
   constructor
   ·rintro (h | h | h)
    ·exact Or.inr (Or.inl h)
    ·exact Or.inl h
    ·exact Or.inr (Or.inr h)
   ·rintro (h | h | h)
    ·exact Or.inr (Or.inl h)
    ·exact Or.inl h
    ·exact Or.inr (Or.inr h)
theorem delF_len (l : Fs) (n : ByteArray) : (delF l n).length ≤ l.length := List.length_filter_le _ _
theorem delF_tot (l : Fs) (n : ByteArray) : totF (delF l n) ≤ totF l := by
 unfold totF delF
 induction l with
 | nil => simp
 | cons p l ih =>
  rw [List.filter_cons]
  split
  ·simp only [List.map_cons, List.sum_cons]; omega
  ·simp only [List.map_cons, List.sum_cons]; omega
theorem getF_tot : ∀ (l : Fs) (n : ByteArray), (getF l n).size + totF (delF l n) ≤ totF l
 | [], n => by simp [getF, totF, delF]; rfl
 | p :: l, n => by
  have ih := getF_tot l n
  have hd := delF_tot l n
  unfold getF totF delF at *
  rw [List.find?_cons, List.filter_cons]
  by_cases h : sameN p.1 n = true
  ·rw [h]
   simp only [Bool.not_true, Option.map_some, Option.getD_some, List.map_cons, List.sum_cons]
   rw [if_neg (by simp)]
   omega
  ·rw [Bool.not_eq_true] at h
   rw [h]
   simp only [Bool.not_false, if_true, List.map_cons, List.sum_cons]
   omega
theorem getF_le (l : Fs) (n : ByteArray) : (getF l n).size ≤ totF l := by have := getF_tot l n; omega
theorem putF_len (l : Fs) (n s : ByteArray) : (putF l n s).length ≤ l.length + 1 := by
 unfold putF
 rw [insF_len]
 have := delF_len l n
 omega
theorem putF_tot (l : Fs) (n s : ByteArray) : totF (putF l n s) + (getF l n).size ≤ totF l + s.size := by
 unfold putF
 rw [insF_tot]
 have := getF_tot l n
 simp only
 omega
/-! in order -/
def Rises (l : Fs) : Prop := l.Pairwise fun p q => ltN p.1 q.1 = true
theorem ltN_trans {a b c : ByteArray} (h1 : ltN a b = true) (h2 : ltN b c = true) : ltN a c = true := WideShapes.before_trans (a := kn a) (b := kn b) (c := kn c) h1 h2
theorem ltN_irrefl (a : ByteArray) : ltN a a = false := WideShapes.before_irrefl (kn a)
theorem ltN_ne {a b : ByteArray} (h : ltN a b = true) : a ≠ b := fun e => by rw [e, ltN_irrefl] at h; cases h
/-! a map of texts by names -/
theorem kstr : Maps.Keyed Tryz.prog 9 := string_keyed Tryz.underlying9
theorem zstr (w : World) : (zeroValue 9).run Tryz.prog w = .ok (.string ⟨#[]⟩) w := by kernel_rfl
abbrev OwnF (w : World) (b n : Nat) (l : Fs) : Prop := w.ownsMap Tryz.prog 9 (plainElem Tryz.prog 9) b n (dOf l)
theorem key_of {s : ByteArray} (h : s.size ≤ 9223372036854775807) : keyOf Tryz.prog 9 (.string s) = some (kn s) := keyOf_string_mk Tryz.underlying9 h
theorem elem_of {s : ByteArray} (h : s.size ≤ 9223372036854775807) : plainElem (H := Unit) Tryz.prog 9 (.string s) = some (.lit (.string s.data.toList), []) := plainElem_string Tryz.underlying9 h
theorem elem_str {v : Value} {s : ByteArray} {ps : List MemPlace} (h : plainElem (H := Unit) Tryz.prog 9 v = some (.lit (.string s.data.toList), ps)) : v = .string s := by
 obtain ⟨t, rfl, hz, _⟩ := plainElem_string_inv Tryz.underlying9 h
 simp only [Prod.mk.injEq, DataW.lit.injEq, Lit.string.injEq] at hz
 rw [ba_inj hz.1]
theorem look_run {w : World} {b n : Nat} {l : Fs} (h : OwnF w b n l) {nm : ByteArray} (hk : nm.size ≤ 9223372036854775807) : (Instr.lookup 58 (.map (some b)) (.string nm) false).run Tryz.prog w = .ok (.string (getF l nm)) w := by
 obtain ⟨v, ps, hrun, hv⟩ := h.lookup kstr Tryz.underlying58 (zstr w) (zd := .lit (.string [])) (zp := []) (elem_of (s := ⟨#[]⟩) (by decide)) (key_of hk)
 rw [dOf_at] at hv
 rw [elem_str hv] at hrun
 exact hrun
theorem lookok_run {w : World} {b n : Nat} {l : Fs} (h : OwnF w b n l) {nm : ByteArray} (hk : nm.size ≤ 9223372036854775807) : (Instr.lookup 58 (.map (some b)) (.string nm) true).run Tryz.prog w = .ok (.tuple #[.string (getF l nm), .bool (hasF l nm)]) w := by
 obtain ⟨v, ps, hrun, hv⟩ := h.look_ok kstr Tryz.underlying58 (zstr w) (zd := .lit (.string [])) (zp := []) (elem_of (s := ⟨#[]⟩) (by decide)) (key_of hk)
 rw [dOf_at] at hv
 rw [elem_str hv, dOf_has] at hrun
 exact hrun
theorem upd_run {w : World} {b n : Nat} {l : Fs} (h : OwnF w b n l) (hn : n < 9223372036854775807) {nm s : ByteArray} (hk : nm.size ≤ 9223372036854775807) (hs : s.size ≤ 9223372036854775807) : ∃ w', (Instr.mapUpdate 58 (.map (some b)) (.string nm) (.string s)).run Tryz.prog w = .ok () w' ∧ OwnF w' b (n + 1) (putF l nm s) ∧ w.mapTurned w' b := by
 obtain ⟨w', h1, h2, h3⟩ := h.store kstr Tryz.underlying58 hn (key_of hk) (elem_of hs)
 rw [dOf_put] at h2
 exact ⟨w', h1, h2, h3⟩
theorem del_run {w : World} {b n : Nat} {l : Fs} (h : OwnF w b n l) {nm : ByteArray} (hk : nm.size ≤ 9223372036854775807) (ty : TypeId) : ∃ w', (Builtin.delete_ #[58, 9] ty #[.map (some b), .string nm]).run Tryz.prog w = .ok (.tuple #[]) w' ∧ OwnF w' b n (delF l nm) ∧ w.mapTurned w' b := by
 obtain ⟨w', h1, h2, h3⟩ := h.drop kstr Tryz.underlying58 (key_of hk) ty
 rw [dOf_del] at h2
 exact ⟨w', h1, h2, h3⟩
theorem OwnF.fit {w : World} {b n : Nat} {l : Fs} (h : OwnF w b n l) : OwnF w b l.length l := by
 obtain ⟨es, clock, hb, F, _, hD⟩ := h
 have e : es.size = l.length := by
  have := congrArg Maps.size hD
  rw [dOf_size, Maps.size_eq, length_sorted] at this
  simp at this
  exact this.symm
 exact ⟨es, clock, hb, F, by rw [e]; exact Nat.le_refl _, hD⟩
theorem OwnF.at {w : World} {b n : Nat} {l : Fs} (h : OwnF w b n l) : ∃ es clock, w.heap[b]? = some (.map es clock) := by
 obtain ⟨es, clock, hb, _⟩ := h
 exact ⟨es, clock, hb⟩
/-! do -/
theorem do_append {w : World} {b : Nat} {l : Fs} (nm t s : ByteArray) (lg : Int) (h : OwnF w b l.length l) (hl : l.length < 9223372036854775807) (hk : nm.size ≤ 9223372036854775807) (hs : (getF l nm).size + s.size ≤ 9223372036854775807) :
  Calls Tryz.prog 87 #[.map (some b), .agg #[.int .i64 0, .string nm, .string t, .string s, .int .i64 lg]] w fun e w' => e = .returned (.tuple #[]) ∧ OwnF w' b (putF l nm (getF l nm ++ s)).length (putF l nm (getF l nm ++ s)) ∧ w.grownBy w' (some b) := by
 have h1 := h.alloc (.cells #[.int .i64 0, .string nm, .string t, .string s, .int .i64 lg] 119 (0, 0))
 have hL := look_run h1 hk
 obtain ⟨w2, hU, hO, hT⟩ := upd_run h1 hl hk (s := getF l nm ++ s) (by rw [ByteArray.size_append]; exact hs)
 have HO := Aside0.mk hO
 have HT := Aside0.mk hT
 have hsz : ((getF l nm).size + s.size > 9223372036854775807) = False := eq_false (by omega)
 have hu := Tryz.underlying119
 clear hO hT h h1 hs hk hl
 go_enter Tryz.func87, Tryz.ntmps87
 go_wp2_with (fail)
 go_end0
 exact ⟨rfl, (HO.out).fit, (World.grownBy_alloc _ _ _).trans HT.out.grown⟩
theorem do_write {w : World} {b : Nat} {l : Fs} (nm t s : ByteArray) (lg : Int) (h : OwnF w b l.length l) (hl : l.length < 9223372036854775807) (hk : nm.size ≤ 9223372036854775807) (hs : s.size ≤ 9223372036854775807) :
  Calls Tryz.prog 87 #[.map (some b), .agg #[.int .i64 1, .string nm, .string t, .string s, .int .i64 lg]] w fun e w' => e = .returned (.tuple #[]) ∧ OwnF w' b (putF l nm s).length (putF l nm s) ∧ w.grownBy w' (some b) := by
 have h1 := h.alloc (.cells #[.int .i64 1, .string nm, .string t, .string s, .int .i64 lg] 119 (0, 0))
 obtain ⟨w2, hU, hO, hT⟩ := upd_run h1 hl hk hs
 have HO := Aside0.mk hO
 have HT := Aside0.mk hT
 have hu := Tryz.underlying119
 clear hO hT h h1 hs hk hl
 go_enter Tryz.func87, Tryz.ntmps87
 go_wp2_with (fail)
 go_end0
 exact ⟨rfl, (HO.out).fit, (World.grownBy_alloc _ _ _).trans HT.out.grown⟩
theorem do_move {w : World} {b : Nat} {l : Fs} (nm t s : ByteArray) (lg : Int) (h : OwnF w b l.length l) (hl : l.length < 9223372036854775807) (hk : nm.size ≤ 9223372036854775807) (ht : t.size ≤ 9223372036854775807) (hs : (getF l nm).size ≤ 9223372036854775807) :
  Calls Tryz.prog 87 #[.map (some b), .agg #[.int .i64 2, .string nm, .string t, .string s, .int .i64 lg]] w fun e w' => e = .returned (.tuple #[]) ∧ OwnF w' b (delF (putF l t (getF l nm)) nm).length (delF (putF l t (getF l nm)) nm) ∧ w.grownBy w' (some b) := by
 have h1 := h.alloc (.cells #[.int .i64 2, .string nm, .string t, .string s, .int .i64 lg] 119 (0, 0))
 have hL := look_run h1 hk
 obtain ⟨w2, hU, hO, hT⟩ := upd_run h1 hl ht hs
 obtain ⟨w3, hD, hO2, hT2⟩ := del_run hO hk 0
 have HO := Aside0.mk hO2
 have HT := Aside0.mk (hT.trans hT2)
 have hc1 : w2.cell? ⟨w.heap.size, 0, none⟩ = some (.int .i64 2) := by
  refine (World.cell?_of_block (hT.grown.block w.heap.size (by simp) ?_)).trans ((blk_cell (heap_alloc_new w _) 0).trans rfl)
  have := h.lt
  simp; omega
 have hc2 : w2.cell? ⟨w.heap.size, 1, none⟩ = some (.string nm) := by
  refine (World.cell?_of_block (hT.grown.block w.heap.size (by simp) ?_)).trans ((blk_cell (heap_alloc_new w _) 1).trans rfl)
  have := h.lt
  simp; omega
 have hu := Tryz.underlying119
 clear hO hT hO2 hT2 h h1 hs hk hl ht
 go_enter Tryz.func87, Tryz.ntmps87
 go_wp2_with (fail)
 go_end0
 exact ⟨rfl, (HO.out).fit, (World.grownBy_alloc _ _ _).trans HT.out.grown⟩
theorem do_remove {w : World} {b : Nat} {l : Fs} (nm t s : ByteArray) (lg : Int) (h : OwnF w b l.length l) (hk : nm.size ≤ 9223372036854775807) :
  Calls Tryz.prog 87 #[.map (some b), .agg #[.int .i64 3, .string nm, .string t, .string s, .int .i64 lg]] w fun e w' => e = .returned (.tuple #[]) ∧ OwnF w' b (delF l nm).length (delF l nm) ∧ w.grownBy w' (some b) := by
 have h1 := h.alloc (.cells #[.int .i64 3, .string nm, .string t, .string s, .int .i64 lg] 119 (0, 0))
 obtain ⟨w2, hU, hO, hT⟩ := del_run h1 hk 0
 have HO := Aside0.mk hO
 have HT := Aside0.mk hT
 have hu := Tryz.underlying119
 clear hO hT h h1 hk
 go_enter Tryz.func87, Tryz.ntmps87
 go_wp2_with (fail)
 go_end0
 exact ⟨rfl, (HO.out).fit, (World.grownBy_alloc _ _ _).trans HT.out.grown⟩
theorem do_cut {w : World} {b : Nat} {l : Fs} (nm t s : ByteArray) (lg : Nat) (h : OwnF w b l.length l) (hl : l.length < 9223372036854775807) (hk : nm.size ≤ 9223372036854775807) (hs : (getF l nm).size ≤ 9223372036854775807) (hg : lg ≤ (getF l nm).size) :
  Calls Tryz.prog 87 #[.map (some b), .agg #[.int .i64 4, .string nm, .string t, .string s, .int .i64 (lg : Int)]] w fun e w' => e = .returned (.tuple #[]) ∧ OwnF w' b (putF l nm ((getF l nm).extract 0 lg)).length (putF l nm ((getF l nm).extract 0 lg)) ∧ w.grownBy w' (some b) := by
 have h1 := (h.alloc (.cells #[.int .i64 4, .string nm, .string t, .string s, .int .i64 (lg : Int)] 119 (0, 0))).drew
 have hL := look_run h1 hk
 obtain ⟨w2, hU, hO, hT⟩ := upd_run h1 hl hk (s := (getF l nm).extract 0 lg) (by rw [ByteArray.size_extract]; omega)
 have HO := Aside0.mk hO
 have hg0 : (0 : Int) ≤ (lg : Int) := by omega
 have hg1 : (lg : Int) ≤ ((getF l nm).size : Int) := by omega
 have hu := Tryz.underlying119
 have hL2 := look_run (h.alloc (.cells #[.int .i64 4, .string nm, .string t, .string s, .int .i64 (lg : Int)] 119 (0, 0))) hk
 have hc1 : (w.alloc (.cells #[.int .i64 4, .string nm, .string t, .string s, .int .i64 (lg : Int)] 119 (0, 0))).cell? ⟨w.heap.size, 1, none⟩ = some (.string nm) := (blk_cell (heap_alloc_new w _) 1).trans rfl
 have hc4 : (w.alloc (.cells #[.int .i64 4, .string nm, .string t, .string s, .int .i64 (lg : Int)] 119 (0, 0))).cell? ⟨w.heap.size, 4, none⟩ = some (.int .i64 (lg : Int)) := (blk_cell (heap_alloc_new w _) 4).trans rfl
 have hb := h.lt
 have HG : Aside0 (w.grownBy w2 (some b)) := ⟨(World.grownBy_alloc w (.cells #[.int .i64 4, .string nm, .string t, .string s, .int .i64 (lg : Int)] 119 (0, 0)) (some b)).trans ⟨hT.grown.os, hT.grown.tape, hT.grown.output, hT.grown.size, hT.grown.block⟩⟩
 have hk1 : w2.cell? ⟨w.heap.size, 1, none⟩ = some (.string nm) := (World.cell?_of_block (hT.grown.block w.heap.size (by simp) (by simp; omega))).trans hc1
 have hk4 : w2.cell? ⟨w.heap.size, 4, none⟩ = some (.int .i64 (lg : Int)) := (World.cell?_of_block (hT.grown.block w.heap.size (by simp) (by simp; omega))).trans hc4
 clear hO hT h h1 hs hk hl hg hL2 hb hc1 hc4
 go_enter Tryz.func87, Tryz.ntmps87
 go_wp2_with (fail)
 go_region_held3 (fun w' => w'.cell? ⟨w.heap.size, 1, none⟩ = some (.string nm) ∧ w'.cell? ⟨w.heap.size, 4, none⟩ = some (.int .i64 (lg : Int))) (go_keep) (fail)
 all_goals go_wp2
 all_goals go_end0
 all_goals exact ⟨rfl, (HO.out).fit, HG.out⟩
/-! a change -/
structure Chg where
 kind : Int
 name : ByteArray
 dest : ByteArray
 s : ByteArray
 long : Int
def cvC (c : Chg) : Value := .agg #[.int .i64 c.kind, .string c.name, .string c.dest, .string c.s, .int .i64 c.long]
def doC (l : Fs) (c : Chg) : Fs :=
 if c.kind = 0 then putF l c.name (getF l c.name ++ c.s)
 else if c.kind = 1 then putF l c.name c.s
 else if c.kind = 2 then delF (putF l c.dest (getF l c.name)) c.name
 else if c.kind = 3 then delF l c.name
 else putF l c.name ((getF l c.name).extract 0 c.long.toNat)
/-- what a change asks of the files that it is made to -/
structure OkC (l : Fs) (c : Chg) : Prop where
 kind : 0 ≤ c.kind ∧ c.kind ≤ 4
 name : c.name.size ≤ 9223372036854775807
 dest : c.dest.size ≤ 9223372036854775807
 len : l.length < 9223372036854775807
 tot : totF l + c.s.size ≤ 9223372036854775807
 cut : c.kind = 4 → 0 ≤ c.long ∧ c.long ≤ ((getF l c.name).size : Int)
theorem do_calls {w : World} {b : Nat} {l : Fs} (c : Chg) (h : OwnF w b l.length l) (hok : OkC l c) :
  Calls Tryz.prog 87 #[.map (some b), cvC c] w fun e w' => e = .returned (.tuple #[]) ∧ OwnF w' b (doC l c).length (doC l c) ∧ w.grownBy w' (some b) := by
 have hg := getF_le l c.name
 have ht := hok.tot
 have hk := hok.kind
 unfold cvC doC
 obtain ⟨k, nm, t, s, lg⟩ := c
 simp only at hg ht hk ⊢
 by_cases h0 : k = 0
 ·subst h0
  rw [if_pos rfl]
  exact do_append nm t s lg h hok.len hok.name (by omega)
 rw [if_neg h0]
 by_cases h1 : k = 1
 ·subst h1
  rw [if_pos rfl]
  exact do_write nm t s lg h hok.len hok.name (by omega)
 rw [if_neg h1]
 by_cases h2 : k = 2
 ·subst h2
  rw [if_pos rfl]
  exact do_move nm t s lg h hok.len hok.name hok.dest (by omega)
 rw [if_neg h2]
 by_cases h3 : k = 3
 ·subst h3
  rw [if_pos rfl]
  exact do_remove nm t s lg h hok.name
 rw [if_neg h3]
 obtain rfl : k = 4 := by omega
 obtain ⟨c1, c2⟩ := hok.cut rfl
 simp only at c1 c2
 obtain ⟨m, rfl⟩ := Int.eq_ofNat_of_zero_le c1
 rw [Int.toNat_natCast]
 exact do_cut nm t s m h hok.len hok.name (by omega) (by omega)
/-! changes and falls in memory -/
def kC : Kd Chg := Kd.iso (Kd.pair (Kd.int .i64) (Kd.pair Kd.string (Kd.pair Kd.string (Kd.pair Kd.string (Kd.int .i64))))) (fun x : Chg => (x.kind, x.name, x.dest, x.s, x.long))
def zC : Chg := ⟨0, ⟨#[]⟩, ⟨#[]⟩, ⟨#[]⟩, 0⟩
abbrev csC (x : Chg) : List Value := [.int .i64 x.kind, .string x.name, .string x.dest, .string x.s, .int .i64 x.long]
theorem kC_open {w : World} {x : Chg} {cs : List Value} (h : kC.K w x cs) : cs = csC x := by
 obtain ⟨_, _, rfl, rfl, ⟨_, _, rfl, rfl, ⟨_, _, rfl, rfl, ⟨_, _, rfl, rfl, rfl⟩⟩⟩⟩ := h
 exact rfl
theorem kC_mkM (w : World) (base : Nat) (ok : Nat → Prop) (x : Chg) : kC.M w base ok x (csC x) := ⟨[.int .i64 x.kind], [.string x.name, .string x.dest, .string x.s, .int .i64 x.long], rfl, rfl, ⟨[.string x.name], [.string x.dest, .string x.s, .int .i64 x.long], rfl, rfl, ⟨[.string x.dest], [.string x.s, .int .i64 x.long], rfl, rfl, ⟨[.string x.s], [.int .i64 x.long], rfl, rfl, rfl⟩⟩⟩⟩
theorem at_C {w : World} {A : Option Addr} {n : Nat} {xs : List Chg} (h : Kd.C kC w A n xs) (i : Nat) (h1 : i < n) : ∃ ad, A = some ad ∧ w.cell? (ad.add (i * 5)) = some (.int .i64 (xs.getD i zC).kind) ∧ w.cell? ⟨(ad.add (i * 5)).block, (ad.add (i * 5)).off + 1, none⟩ = some (.string (xs.getD i zC).name) ∧ w.cell? ⟨(ad.add (i * 5)).block, (ad.add (i * 5)).off + 2, none⟩ = some (.string (xs.getD i zC).dest) ∧ w.cell? ⟨(ad.add (i * 5)).block, (ad.add (i * 5)).off + 3, none⟩ = some (.string (xs.getD i zC).s) ∧ w.cell? ⟨(ad.add (i * 5)).block, (ad.add (i * 5)).off + 4, none⟩ = some (.int .i64 (xs.getD i zC).long) := by
 obtain ⟨ad, c, e, _, hK, hc0⟩ := Kd.C_get h zC (i : Int) (by omega) (by omega)
 rw [Int.toNat_natCast] at hK hc0
 have hc : ∀ j u, c[j]? = some u → w.cell? (ad.add (i * 5 + j)) = some u := hc0
 obtain rfl := kC_open hK
 exact ⟨ad, e, hc 0 _ rfl, by rw [← add_field _ _ 1 (by omega)]; exact hc 1 _ rfl, by rw [← add_field _ _ 2 (by omega)]; exact hc 2 _ rfl, by rw [← add_field _ _ 3 (by omega)]; exact hc 3 _ rfl, by rw [← add_field _ _ 4 (by omega)]; exact hc 4 _ rfl⟩
structure Fal where
 at_ : Int
 keep : Int
 torn : Int
def kF : Kd Fal := Kd.iso (Kd.pair (Kd.int .i64) (Kd.pair (Kd.int .i64) (Kd.int .i64))) (fun x : Fal => (x.at_, x.keep, x.torn))
def zF : Fal := ⟨0, 0, 0⟩
abbrev csF (x : Fal) : List Value := [.int .i64 x.at_, .int .i64 x.keep, .int .i64 x.torn]
theorem kF_open {w : World} {x : Fal} {cs : List Value} (h : kF.K w x cs) : cs = csF x := by
 obtain ⟨_, _, rfl, rfl, ⟨_, _, rfl, rfl, rfl⟩⟩ := h
 exact rfl
theorem kF_mkM (w : World) (base : Nat) (ok : Nat → Prop) (x : Fal) : kF.M w base ok x (csF x) := ⟨[.int .i64 x.at_], [.int .i64 x.keep, .int .i64 x.torn], rfl, rfl, ⟨[.int .i64 x.keep], [.int .i64 x.torn], rfl, rfl, rfl⟩⟩
theorem kF_KM {w : World} {base : Nat} {ok : Nat → Prop} {x : Fal} {cs : List Value} {w' : World} (h : kF.K w x cs) : kF.M w' base ok x cs := by
 rw [kF_open h]
 exact kF_mkM _ _ _ _
theorem at_F {w : World} {A : Option Addr} {n : Nat} {xs : List Fal} (h : Kd.C kF w A n xs) (i : Nat) (h1 : i < n) : ∃ ad, A = some ad ∧ w.cell? (ad.add (i * 3)) = some (.int .i64 (xs.getD i zF).at_) ∧ w.cell? ⟨(ad.add (i * 3)).block, (ad.add (i * 3)).off + 1, none⟩ = some (.int .i64 (xs.getD i zF).keep) ∧ w.cell? ⟨(ad.add (i * 3)).block, (ad.add (i * 3)).off + 2, none⟩ = some (.int .i64 (xs.getD i zF).torn) := by
 obtain ⟨ad, c, e, _, hK, hc0⟩ := Kd.C_get h zF (i : Int) (by omega) (by omega)
 rw [Int.toNat_natCast] at hK hc0
 have hc : ∀ j u, c[j]? = some u → w.cell? (ad.add (i * 3 + j)) = some u := hc0
 obtain rfl := kF_open hK
 exact ⟨ad, e, hc 0 _ rfl, by rw [← add_field _ _ 1 (by omega)]; exact hc 1 _ rfl, by rw [← add_field _ _ 2 (by omega)]; exact hc 2 _ rfl⟩
theorem infoC : (Tryz.prog.info? 119).map (fun i => (i.zero, i.size, i.bytes)) = some (some (.agg #[(.int .i64 0), (.string ⟨#[]⟩), (.string ⟨#[]⟩), (.string ⟨#[]⟩), (.int .i64 0)]), 5, 64) := by kernel_rfl
theorem infoF : (Tryz.prog.info? 134).map (fun i => (i.zero, i.size, i.bytes)) = some (some (.agg #[(.int .i64 0), (.int .i64 0), (.int .i64 0)]), 3, 24) := by kernel_rfl
/-! the disk in memory -/
structure DK where
 sure : Fs
 now : Fs
 wait : List Chg
 count : Int
 down : Bool
 falls : List Fal
 room : Int
structure IsDL (W : World) (d : Nat) (ok : Nat → Prop) (st : DK) (bs bn : Nat) (vw vf : Value) : Prop where
 blk : W.heap[d]? = some (.cells #[.map (some bs), .map (some bn), vw, .int .i64 st.count, .bool st.down, vf, .int .i64 st.room] 62 (0, 0))
 sure : OwnF W bs st.sure.length st.sure
 now : OwnF W bn st.now.length st.now
 ne : bs ≠ bn
 okd : ok d
 oks : ok bs
 okn : ok bn
 wait : kC.R 119 W 0 ok vw st.wait
 falls : kF.R 134 W 0 ok vf st.falls
def IsD (W : World) (d : Nat) (ok : Nat → Prop) (st : DK) : Prop := ∃ bs bn vw vf, IsDL W d ok st bs bn vw vf
/-- What a call leaves of the blocks that are not the disk's. -/
structure Kp (ok : Nat → Prop) (w w' : World) : Prop where
 os : w'.os = w.os
 tape : w'.tape = w.tape
 output : w'.output = w.output
 size : w.heap.size ≤ w'.heap.size
 block : ∀ k, k < w.heap.size → ¬ ok k → w'.heap[k]? = w.heap[k]?
theorem Kp.refl (ok : Nat → Prop) (w : World) : Kp ok w w := ⟨rfl, rfl, rfl, Nat.le_refl _, fun _ _ _ => rfl⟩
theorem Kp.trans {ok : Nat → Prop} {a b c : World} (h : Kp ok a b) (k : Kp ok b c) : Kp ok a c :=
 ⟨k.os.trans h.os, k.tape.trans h.tape, k.output.trans h.output, Nat.le_trans h.size k.size, fun i hi ho => (k.block i (Nat.lt_of_lt_of_le hi h.size) ho).trans (h.block i hi ho)⟩
theorem Kp.of_below {ok : Nat → Prop} {w w' : World} (h : Below w.heap.size w w') : Kp ok w w' := ⟨h.os, h.tape, h.output, h.size, fun k hk _ => h.block k hk⟩
theorem Kp.of_grown {ok : Nat → Prop} {w w' : World} {row : Option Nat} (h : w.grownBy w' row) (hr : ∀ k, row = some k → ok k) : Kp ok w w' := ⟨h.os, h.tape, h.output, h.size, fun k hk ho => h.block k hk (fun e => ho (hr k e.symm))⟩
theorem Kp.alloc {ok : Nat → Prop} {a w : World} (h : Kp ok a w) (o : Obj) : Kp ok a (w.alloc o) := h.trans (Kp.of_grown (World.grownBy_alloc w o none) (fun _ e => by cases e))
theorem Kp.drewN {ok : Nat → Prop} {a w : World} (h : Kp ok a w) (n : Nat) : Kp ok a (w.drewN n) := by
 induction n with
 | zero => exact h
 | succ n ih => exact ⟨ih.os, ih.tape, ih.output, ih.size, ih.block⟩
theorem Kp.drew {ok : Nat → Prop} {a w : World} (h : Kp ok a w) : Kp ok a w.drew := ⟨h.os, h.tape, h.output, h.size, h.block⟩
theorem Kp.set {ok : Nat → Prop} {a w : World} (h : Kp ok a w) {p : Addr} (hp : ok p.block) (u : Value) : Kp ok a (w.setCell p u) :=
 h.trans ⟨rfl, rfl, rfl, by simp [World.setCell], fun k hk ho => Below.heap_setCell w p u k (fun e => ho (e ▸ hp))⟩
theorem Kp.below {base : Nat} {w w' : World} (h : Kp (fun k => base ≤ k) w w') (hb : base ≤ w.heap.size) : Below base w w' := ⟨h.os, h.tape, h.output, h.size, fun k hk => h.block k (by omega) (by omega)⟩
theorem Kp.mono {ok ok' : Nat → Prop} {w w' : World} (h : Kp ok w w') (hm : ∀ k, k < w.heap.size → ok k → ok' k) : Kp ok' w w' := ⟨h.os, h.tape, h.output, h.size, fun k hk ho => h.block k hk (fun e => ho (hm k hk e))⟩
theorem R_keepT {α : Type} {D : Kd α} {e : Nat} {w w1 : World} {base : Nat} {ok : Nat → Prop} {v : Value} {xs : List α} (h : D.R e w base ok v xs)
  (hm : ∀ k, k < w.heap.size → ok k → (∃ q, q ∈ e :: D.E ∧ ∃ cells, w.heap[k]? = some (.cells cells q (0, 0))) → w1.heap[k]? = w.heap[k]?) : D.R e w1 base ok v xs :=
 Kd.R_mono (Kd.R_step (Kd.R_bound h) (fun k hk hlt => hm k hlt hk.1 hk.2.2.2)) (fun _ hk => hk.1)
theorem kC_E : kC.E = [] := rfl
theorem kF_E : kF.E = [] := rfl
theorem OwnF_move {w w1 : World} {b n : Nat} {l : Fs} (h : OwnF w b n l) (hm : w1.heap[b]? = w.heap[b]?) : OwnF w1 b n l := by
 obtain ⟨es, clock, hb, r⟩ := h
 exact ⟨es, clock, hm.trans hb, r⟩
theorem lt_of_some {w : World} {b : Nat} {o : Obj} (h : w.heap[b]? = some o) : b < w.heap.size := (Array.getElem?_eq_some_iff.1 h).1
section
variable {W W' : World} {d : Nat} {ok ok' : Nat → Prop} {st : DK} {bs bn : Nat} {vw vf : Value}
/-- Nothing of the disk's has changed. -/
theorem IsDL.step (h : IsDL W d ok st bs bn vw vf) (hm : ∀ k, ok k → k < W.heap.size → W'.heap[k]? = W.heap[k]?) : IsDL W' d ok st bs bn vw vf :=
 ⟨(hm d h.okd (lt_of_some h.blk)).trans h.blk, OwnF_move h.sure (hm bs h.oks h.sure.lt), OwnF_move h.now (hm bn h.okn h.now.lt), h.ne, h.okd, h.oks, h.okn, Kd.R_step h.wait hm, Kd.R_step h.falls hm⟩
theorem IsDL.below (h : IsDL W d ok st bs bn vw vf) (hb : Below W.heap.size W W') : IsDL W' d ok st bs bn vw vf := h.step (fun k _ hk => hb.block k hk)
theorem IsDL.alloc (h : IsDL W d ok st bs bn vw vf) (o : Obj) : IsDL (W.alloc o) d ok st bs bn vw vf := h.step (fun k _ hk => Below.heap_alloc W o k hk)
theorem IsDL.drewN (h : IsDL W d ok st bs bn vw vf) (n : Nat) : IsDL (W.drewN n) d ok st bs bn vw vf := by
 induction n with
 | zero => exact h
 | succ n ih => exact ih.step (fun _ _ _ => rfl)
theorem IsDL.drew (h : IsDL W d ok st bs bn vw vf) : IsDL W.drew d ok st bs bn vw vf := h.step (fun _ _ _ => rfl)
theorem IsDL.mono (h : IsDL W d ok st bs bn vw vf) (hm : ∀ k, ok k → ok' k) : IsDL W d ok' st bs bn vw vf := ⟨h.blk, h.sure, h.now, h.ne, hm _ h.okd, hm _ h.oks, hm _ h.okn, Kd.R_mono h.wait hm, Kd.R_mono h.falls hm⟩
theorem IsDL.bound (h : IsDL W d ok st bs bn vw vf) : IsDL W d (fun k => ok k ∧ k < W.heap.size) st bs bn vw vf :=
 ⟨h.blk, h.sure, h.now, h.ne, ⟨h.okd, lt_of_some h.blk⟩, ⟨h.oks, h.sure.lt⟩, ⟨h.okn, h.now.lt⟩, Kd.R_mono (Kd.R_bound h.wait) (fun _ hk => ⟨hk.1, hk.2.2.1⟩), Kd.R_mono (Kd.R_bound h.falls) (fun _ hk => ⟨hk.1, hk.2.2.1⟩)⟩
theorem IsDL.lt (h : IsDL W d ok st bs bn vw vf) : d < W.heap.size := lt_of_some h.blk
theorem IsDL.ned (h : IsDL W d ok st bs bn vw vf) : d ≠ bs ∧ d ≠ bn := by
 obtain ⟨_, _, h1⟩ := h.sure.at
 obtain ⟨_, _, h2⟩ := h.now.at
 have h0 := h.blk
 constructor
 ·rintro rfl; rw [h1] at h0; injection h0 with e; cases e
 ·rintro rfl; rw [h2] at h0; injection h0 with e; cases e
theorem typed_ne {w : World} {e : Nat} {E : List Nat} {k g t : Nat} {cells : Array Value} (h : ∃ q, q ∈ e :: E ∧ ∃ cells, w.heap[k]? = some (.cells cells q (0, 0))) (hg : w.heap[g]? = some (.cells cells t (0, 0))) (hE : ∀ q, q ∈ e :: E → q ≠ t) : k ≠ g := by
 rintro rfl
 obtain ⟨q, hq, c, hc⟩ := h
 rw [hg] at hc
 injection hc with hc
 injection hc with _ hc
 exact hE q hq hc.symm
theorem typed_nemap {w : World} {e : Nat} {E : List Nat} {k g clock : Nat} {es : Array MapEntry} (h : ∃ q, q ∈ e :: E ∧ ∃ cells, w.heap[k]? = some (.cells cells q (0, 0))) (hg : w.heap[g]? = some (.map es clock)) : k ≠ g := by
 rintro rfl
 obtain ⟨q, hq, c, hc⟩ := h
 rw [hg] at hc
 injection hc with hc
 cases hc
theorem chg_ne : ∀ q, q ∈ (119 : Nat) :: kC.E → q ≠ 62 := by decide
theorem fall_ne : ∀ q, q ∈ (134 : Nat) :: kF.E → q ≠ 62 := by decide
/-- The object's own cells: what a store leaves. -/
theorem IsDL.set (h : IsDL W d ok st bs bn vw vf) (j : Nat) (u : Value) {st' : DK} {vw' vf' : Value} {bs' bn' : Nat}
  (hblk : (W.setCell ⟨d, j, none⟩ u).heap[d]? = some (.cells #[.map (some bs'), .map (some bn'), vw', .int .i64 st'.count, .bool st'.down, vf', .int .i64 st'.room] 62 (0, 0)))
  (hs : OwnF W bs' st'.sure.length st'.sure) (hn : OwnF W bn' st'.now.length st'.now) (hne : bs' ≠ bn') (h1 : ok bs') (h2 : ok bn') (hw : kC.R 119 W 0 ok vw' st'.wait) (hf : kF.R 134 W 0 ok vf' st'.falls) :
  IsDL (W.setCell ⟨d, j, none⟩ u) d ok st' bs' bn' vw' vf' := by
 have hd := h.blk
 have far : ∀ k, k ≠ d → (W.setCell ⟨d, j, none⟩ u).heap[k]? = W.heap[k]? := fun k hk => Below.heap_setCell W ⟨d, j, none⟩ u k hk
 obtain ⟨_, _, m1⟩ := hs.at
 obtain ⟨_, _, m2⟩ := hn.at
 refine ⟨hblk, OwnF_move hs (far _ ?_), OwnF_move hn (far _ ?_), hne, h.okd, h1, h2, R_keepT hw (fun k _ _ ht => far k (typed_ne ht hd chg_ne)), R_keepT hf (fun k _ _ ht => far k (typed_ne ht hd fall_ne))⟩
 ·rintro rfl; rw [m1] at hd; injection hd with e; cases e
 ·rintro rfl; rw [m2] at hd; injection hd with e; cases e
/-- One of its maps has been written. -/
theorem IsDL.mapn (h : IsDL W d ok st bs bn vw vf) (hg : W.grownBy W' (some bn)) {l : Fs} (hl : OwnF W' bn l.length l) : IsDL W' d ok { st with now := l } bs bn vw vf := by
 obtain ⟨_, _, m2⟩ := h.now.at
 have far : ∀ k, k < W.heap.size → k ≠ bn → W'.heap[k]? = W.heap[k]? := fun k hk hne => hg.block k hk (fun e => hne (Option.some.inj e))
 exact ⟨(far d h.lt h.ned.2).trans h.blk, OwnF_move h.sure (far bs h.sure.lt h.ne), hl, h.ne, h.okd, h.oks, h.okn, R_keepT h.wait (fun k hk _ ht => far k hk (typed_nemap ht m2)), R_keepT h.falls (fun k hk _ ht => far k hk (typed_nemap ht m2))⟩
theorem IsDL.maps (h : IsDL W d ok st bs bn vw vf) (hg : W.grownBy W' (some bs)) {l : Fs} (hl : OwnF W' bs l.length l) : IsDL W' d ok { st with sure := l } bs bn vw vf := by
 obtain ⟨_, _, m2⟩ := h.sure.at
 have far : ∀ k, k < W.heap.size → k ≠ bs → W'.heap[k]? = W.heap[k]? := fun k hk hne => hg.block k hk (fun e => hne (Option.some.inj e))
 exact ⟨(far d h.lt h.ned.1).trans h.blk, hl, OwnF_move h.now (far bn h.now.lt (Ne.symm h.ne)), h.ne, h.okd, h.oks, h.okn, R_keepT h.wait (fun k hk _ ht => far k hk (typed_nemap ht m2)), R_keepT h.falls (fun k hk _ ht => far k hk (typed_nemap ht m2))⟩
theorem IsDL.c0 (h : IsDL W d ok st bs bn vw vf) : W.cell? ⟨d, 0, none⟩ = some (.map (some bs)) := (blk_cell h.blk 0).trans rfl
theorem IsDL.c1 (h : IsDL W d ok st bs bn vw vf) : W.cell? ⟨d, 1, none⟩ = some (.map (some bn)) := (blk_cell h.blk 1).trans rfl
theorem IsDL.c2 (h : IsDL W d ok st bs bn vw vf) : W.cell? ⟨d, 2, none⟩ = some vw := (blk_cell h.blk 2).trans rfl
theorem IsDL.c3 (h : IsDL W d ok st bs bn vw vf) : W.cell? ⟨d, 3, none⟩ = some (.int .i64 st.count) := (blk_cell h.blk 3).trans rfl
theorem IsDL.c4 (h : IsDL W d ok st bs bn vw vf) : W.cell? ⟨d, 4, none⟩ = some (.bool st.down) := (blk_cell h.blk 4).trans rfl
theorem IsDL.c5 (h : IsDL W d ok st bs bn vw vf) : W.cell? ⟨d, 5, none⟩ = some vf := (blk_cell h.blk 5).trans rfl
theorem IsDL.c6 (h : IsDL W d ok st bs bn vw vf) : W.cell? ⟨d, 6, none⟩ = some (.int .i64 st.room) := (blk_cell h.blk 6).trans rfl
theorem IsDL.fz (h : IsDL W d ok st bs bn vw vf) (j : Nat) : W.frozen? ⟨d, j, none⟩ = false := blk_frozen h.blk j
end
theorem IsD.below {W W' : World} {d : Nat} {ok : Nat → Prop} {st : DK} (h : IsD W d ok st) (hb : Below W.heap.size W W') : IsD W' d ok st := by
 obtain ⟨bs, bn, vw, vf, h⟩ := h
 exact ⟨bs, bn, vw, vf, h.below hb⟩
theorem IsD.step {W W' : World} {d : Nat} {ok : Nat → Prop} {st : DK} (h : IsD W d ok st) (hm : ∀ k, ok k → k < W.heap.size → W'.heap[k]? = W.heap[k]?) : IsD W' d ok st := by
 obtain ⟨bs, bn, vw, vf, h⟩ := h
 exact ⟨bs, bn, vw, vf, h.step hm⟩
theorem IsD.mono {W : World} {d : Nat} {ok ok' : Nat → Prop} {st : DK} (h : IsD W d ok st) (hm : ∀ k, ok k → ok' k) : IsD W d ok' st := by
 obtain ⟨bs, bn, vw, vf, h⟩ := h
 exact ⟨bs, bn, vw, vf, h.mono hm⟩
theorem IsD.bound {W : World} {d : Nat} {ok : Nat → Prop} {st : DK} (h : IsD W d ok st) : IsD W d (fun k => ok k ∧ k < W.heap.size) st := by
 obtain ⟨bs, bn, vw, vf, h⟩ := h
 exact ⟨bs, bn, vw, vf, h.bound⟩
end Go.Proofs.YtpgbkeaaklglkaaGreatDoor.Q