/- Gathering. -/
import Derived.Outline
import Derived.StillTailTactics
import Derived.Deep.AppendLies
import Derived.Test.YthjfofgcikfepaaShR
namespace Go.Proofs.Ythjfofgcikfepaa.Q
open Go.Maps Go.WideShapes Go.WideMaps Go.RowKit Go.Proofs.YthjfofgcikfepaaW.PrintWords Go.Proofs.YthjfofgcikfepaaW.PrintLast Go.Proofs.YthjfofgcikfepaaW.PrintMore
set_option linter.unusedVariables false
set_option linter.unusedSimpArgs false
set_option maxHeartbeats 10000000
set_option maxRecDepth 100000
/-! gathering: words -/
theorem bytes_cat (a b : ByteArray) : bytesOf (a ++ b) = bytesOf a ++ bytesOf b := by
  unfold bytesOf
  rw [ByteArray.data_append, Array.toList_append, List.map_append]
theorem str_bytes (t : ByteArray) : strOfNums (bytesOf t) = t := by
  unfold strOfNums bytesOf
  apply ByteArray.ext
  apply Array.ext'
  simp only [List.map_map]
  conv => rhs; rw [← List.map_id t.data.toList]
  apply List.map_congr_left
  intro x _
  simp
section
variable {P : Program} {ops : Array Oper} {o : Oper} {a : Act} {Q : Exit → Act → World → Prop} {Kc : Act → World → Prop}
theorem step_append_str {w0 W : World} (base : Nat) (hw : Region.wanted o (yielded ops a.tmps) = true) (s x : Operand) (t u e : TypeId)
    (ho : o.op = .call { callee := .builtin .append, args := #[s, x], argTypes := #[t, u] })
    (ht : P.underlying t = some (.slice e)) (hu : P.underlying u = some .string) (hinfo : (P.info? e).map (fun i => (i.zero, i.size, i.bytes)) = some (some (.int .u8 0), 1, 1))
    (v : Value) (T y : ByteArray) (hs : a.eval s = v) (hx : a.eval x = .string y)
    (HO : W.ownsRow base e 1 v (bytesOf T).length (nums .u8 (bytesOf T))) (HB : Below base w0 W) (hbase : base ≤ W.heap.size) (hl : T.size + y.size ≤ 140737488355328)
    (h : ∀ v1 w1, w1.ownsRow base e 1 v1 (bytesOf (T ++ y)).length (nums .u8 (bytesOf (T ++ y))) → Below base w0 w1 → W.grownBy w1 v.ownBlock → Kc (a.put o.dst v1) w1) :
    if Region.wanted o (yielded ops a.tmps) = true then Oper.wp P o a W Kc Q else Kc (a.put o.dst undef) W := by
  rw [if_pos hw]
  obtain ⟨i0, hi, hzz⟩ := Option.map_eq_some_iff.1 hinfo
  simp only [Prod.mk.injEq] at hzz
  obtain ⟨hz0, hz1, hz2⟩ := hzz
  have hn : (bytesOf T).length = T.size := bytesOf_length T
  obtain ⟨v', w', hr, h2, h3, h4⟩ := Lib.run_append_own_string (P := P) W base t u o.type e i0 ht hu hi hz0 hz1 hz2 v (bytesOf T).length (nums .u8 (bytesOf T)) HO y (by simp only [maxLen]; omega) (by omega) hbase
  unfold Oper.wp execOp
  simp only [ho, resolve, invoke, builtin, Sem.run_bind, Sem.run_pure, Result.andThen_ok, List.map_toArray, List.map_cons, List.map_nil, hs, hx, hr]
  refine h _ _ ?_ (HB.grown h3 hbase (own_base HO)) h3
  have hl2 : (bytesOf (T ++ y)).length = (bytesOf T).length + y.size := by rw [bytes_cat, List.length_append, bytesOf_length y]
  have hc : nums .u8 (bytesOf (T ++ y)) = nums .u8 (bytesOf T) ++ Lib.strCells y := by
    rw [bytes_cat, nums_append]
    congr 1
    simp [nums, bytesOf, Lib.strCells]
  rw [hl2, hc]
  exact h2
end
/-- a gather in memory -/
def IsG (w : World) (g : Nat) (b : Bool) (i t : Int) (T : ByteArray) : Prop := T.size ≤ 262144 ∧ ∃ v, w.heap[g]? = some (.cells #[.bool b, .int .i64 i, .int .i64 t, v] 113 (0, 0)) ∧ w.ownsRow (g + 1) 5 1 v (bytesOf T).length (nums .u8 (bytesOf T))
/-- what a Take leaves -/
structure KG (g : Nat) (w w' : World) : Prop where
  os : w'.os = w.os
  tape : w'.tape = w.tape
  output : w'.output = w.output
  size : w.heap.size ≤ w'.heap.size
  block : ∀ k, k < w.heap.size → k ≠ g → (g < k → ∀ cs, w.heap[k]? ≠ some (.cells cs 5 (0, 0))) → w'.heap[k]? = w.heap[k]?
def zR (n : Int) : (Int × Int × List Int × ByteArray) × Bool × Int := ((0, 0, [], ⟨#[]⟩), false, n)
/-- what is gathered, and the answer -/
def takeT (i t : Int) (T : ByteArray) (c : S65) : (Bool × Int × Int × ByteArray) × ((Int × Int × List Int × ByteArray) × Bool × Int) :=
  if T.size + c.f4.size > 262144 then ((false, 0, 0, ⟨#[]⟩), zR 0)
  else if c.f3 = false then ((true, i, t, T ++ c.f4), zR ((T ++ c.f4).size : Int))
  else
    let r := decS 7 (T ++ c.f4)
    if r.2.2.2.2 ≠ 0 ∨ r.1 ≠ c.f0 ∨ r.2.1 ≠ c.f1 then ((false, 0, 0, ⟨#[]⟩), zR 0) else ((false, 0, 0, ⟨#[]⟩), ((r.1, r.2.1, r.2.2.1, r.2.2.2.1), true, 0))
def takeK (b : Bool) (i t : Int) (T : ByteArray) (c : S65) : (Bool × Int × Int × ByteArray) × ((Int × Int × List Int × ByteArray) × Bool × Int) :=
  if c.f2 = 0 then takeT c.f0 c.f1 ⟨#[]⟩ c
  else if b = false ∨ c.f0 ≠ i ∨ c.f1 ≠ t then ((b, i, t, T), zR 0)
  else if c.f2 ≠ (T.size : Int) then ((b, i, t, T), zR (T.size : Int))
  else takeT i t T c
theorem own_heap {w w' : World} {base n size : Nat} {e : TypeId} {v : Value} {xs : List Value} (h : w.ownsRow base e size v n xs) (hk : ∀ k, v.ownBlock = some k → w'.heap[k]? = w.heap[k]?) : w'.ownsRow base e size v n xs := by
  obtain ⟨h1, h2⟩ := h
  refine ⟨h1, h2.imp id ?_⟩
  rintro ⟨g, cap, cur, rfl, hb, hc, h3⟩
  exact ⟨g, cap, cur, rfl, hb, (hk g rfl).trans hc, h3⟩
theorem own_new {w w1 : World} {base n : Nat} {v1 : Value} {xs : List Value} {row : Option Nat} (h : w1.ownsRow base 5 1 v1 n xs) (hg : w.grownBy w1 row) {a : Nat} {ca cb : Array Value} (ha : w1.heap[a]? = some (.cells ca 65 (0, 0))) (hb : w1.heap[a + 1]? = some (.cells cb 24 (0, 0))) (k : Nat) (hk : v1.ownBlock = some k) : k ≠ a ∧ k ≠ a + 1 := by
  obtain ⟨cs, hc⟩ := own_typed h k hk
  constructor
  · rintro rfl
    rw [hc] at ha
    simp at ha
  · rintro rfl
    rw [hc] at hb
    simp at hb
theorem KG.of_below {g : Nat} {w w' : World} (h : Below w.heap.size w w') : KG g w w' := ⟨h.os, h.tape, h.output, h.size, fun k hk _ _ => h.block k hk⟩
theorem KG.set_g {g : Nat} {w w' : World} (h : KG g w w') (j : Nat) (u : Value) : KG g w (w'.setCell ⟨g, j, none⟩ u) :=
  ⟨h.os, h.tape, h.output, by have := h.size; simpa [World.setCell] using this, fun k hk hne ht => (Below.heap_setCell w' ⟨g, j, none⟩ u k hne).trans (h.block k hk hne ht)⟩
theorem KG.far {g q : Nat} {w w' : World} (h : KG g w w') (hq : w.heap.size ≤ q) (j : Nat) (u : Value) : KG g w (w'.setCell ⟨q, j, none⟩ u) :=
  ⟨h.os, h.tape, h.output, by have := h.size; simpa [World.setCell] using this, fun k hk hne ht => (Below.heap_setCell w' ⟨q, j, none⟩ u k (by show k ≠ q; omega)).trans (h.block k hk hne ht)⟩
theorem KG.below {g : Nat} {w w1 w2 : World} (h : KG g w w1) (hb : Below w1.heap.size w1 w2) : KG g w w2 :=
  ⟨hb.os.trans h.os, hb.tape.trans h.tape, hb.output.trans h.output, Nat.le_trans h.size hb.size, fun k hk hne ht => (hb.block k (Nat.lt_of_lt_of_le hk h.size)).trans (h.block k hk hne ht)⟩
theorem KG.grown {g : Nat} {w w1 w2 : World} {row : Option Nat} (h : KG g w w1) (hb : w1.grownBy w2 row) (hr : ∀ k, row = some k → k < w.heap.size → g < k ∧ ∃ cs, w.heap[k]? = some (.cells cs 5 (0, 0))) : KG g w w2 :=
  ⟨hb.os.trans h.os, hb.tape.trans h.tape, hb.output.trans h.output, Nat.le_trans h.size hb.size, fun k hk hne ht => (hb.block k (Nat.lt_of_lt_of_le hk h.size) (fun e => by
    obtain ⟨h1, cs, h2⟩ := hr k e.symm hk
    exact ht h1 cs h2)).trans (h.block k hk hne ht)⟩
theorem take_calls {w : World} {g : Nat} {b : Bool} {i t : Int} {T : ByteArray} (h : IsG w g b i t T) (c : S65) (hcd : c.f4.size ≤ 140737488351232) :
    Calls Try.prog 33 #[.pointer (some ⟨g, 0, none⟩), .agg #[.int .i64 c.f0, .int .i64 c.f1, .int .i64 c.f2, .bool c.f3, .string c.f4]] w fun e w' => ∃ v, e = .returned (.tuple #[.agg #[.int .i64 (takeK b i t T c).2.1.1, .int .i64 (takeK b i t T c).2.1.2.1, v, .string (takeK b i t T c).2.1.2.2.2], .bool (takeK b i t T c).2.2.1, .int .i64 (takeK b i t T c).2.2.2]) ∧ Kd.R (Kd.int .i64) 3 w' w.heap.size (fun k => w.heap.size ≤ k) v (takeK b i t T c).2.1.2.2.1 ∧ IsG w' g (takeK b i t T c).1.1 (takeK b i t T c).1.2.1 (takeK b i t T c).1.2.2.1 (takeK b i t T c).1.2.2.2 ∧ KG g w w' := by
  have hu := Try.underlying24
  have hu2 := Try.underlying113
  have hu3 := Try.underlying65
  obtain ⟨hT, v, hg, ho⟩ := h
  obtain ⟨w1, hw1⟩ : ∃ w1, w1 = w.alloc (.cells #[.int .i64 c.f0, .int .i64 c.f1, .int .i64 c.f2, .bool c.f3, .string c.f4] 65 (0, 0)) := ⟨_, rfl⟩
  obtain ⟨wA, hwA⟩ : ∃ wA, wA = w1.alloc (.cells #[.int .i64 0, .int .i64 0, .slice none 0 0, .string ⟨#[]⟩] 24 (0, 0)) := ⟨_, rfl⟩
  have b1 : Below w.heap.size w w1 := by rw [hw1]; exact below_alloc (Below.refl _ _) _
  have b2 : Below w1.heap.size w1 wA := by rw [hwA]; exact below_alloc (Below.refl _ _) _
  have hs1 : w1.heap.size = w.heap.size + 1 := by rw [hw1]; exact alloc_size _ _
  have hs2 : wA.heap.size = w.heap.size + 2 := by rw [hwA, alloc_size, hs1]
  have XC : Aside0 (wA.heap[w.heap.size]? = some (.cells #[.int .i64 c.f0, .int .i64 c.f1, .int .i64 c.f2, .bool c.f3, .string c.f4] 65 (0, 0))) := ⟨by
    refine (b2.block _ (by omega)).trans ?_
    rw [hw1]; exact heap_alloc_new _ _⟩
  have XS : Aside0 (wA.heap[w.heap.size + 1]? = some (.cells #[.int .i64 0, .int .i64 0, .slice none 0 0, .string ⟨#[]⟩] 24 (0, 0))) := ⟨by
    rw [← hs1, hwA]; exact heap_alloc_new _ _⟩
  have bA := below_step b1 b2
  have XG := Aside0.mk (blk_below hg bA)
  have HO := Aside0.mk (pw_own_below ho bA)
  have KA := Aside0.mk (KG.of_below (g := g) bA)
  have SZ := Aside0.mk hs2
  have VL : Aside0 (∀ k, v.ownBlock = some k → k < w.heap.size) := ⟨fun k hk => own_lt ho k hk⟩
  have LG := Aside0.mk (blk_lt hg)
  have HT := Aside0.mk hT
  have HCD := Aside0.mk hcd
  have VT : Aside0 (∀ k, v.ownBlock = some k → k < w.heap.size → g < k ∧ ∃ cs, w.heap[k]? = some (.cells cs 5 (0, 0))) := ⟨fun k hk _ => ⟨own_base ho k hk, own_typed ho k hk⟩⟩
  clear hg ho hT hcd b1 b2 bA hs1 hs2
  go_enter Try.func33, Try.ntmps33
  go_upto_region 3 with (fail)
  rw [← hw1, ← hwA]
  clear hw1 hwA
  have eXC_0 := (blk_cell XC.out 0).trans rfl
  have eXC_1 := (blk_cell XC.out 1).trans rfl
  have eXC_2 := (blk_cell XC.out 2).trans rfl
  have eXC_3 := (blk_cell XC.out 3).trans rfl
  have eXC_4 := (blk_cell XC.out 4).trans rfl
  by_cases a0 : c.f2 = 0
  · have z0 : (c.f2 == 0) = true := beq_iff_eq.mpr a0
    have TK : Aside0 (takeK b i t T c = takeT c.f0 c.f1 ⟨#[]⟩ c) := ⟨if_pos a0⟩
    clear a0
    have eXG_0 := (blk_cell XG.out 0).trans rfl
    have eXG_1 := (blk_cell XG.out 1).trans rfl
    have eXG_2 := (blk_cell XG.out 2).trans rfl
    have eXG_3 := (blk_cell XG.out 3).trans rfl
    have fXG_0 := blk_frozen XG.out 0
    have fXG_1 := blk_frozen XG.out 1
    have fXG_2 := blk_frozen XG.out 2
    have fXG_3 := blk_frozen XG.out 3
    go_upto_region 9 with (fail)
    have XGq := Aside0.mk (blk4 XG.out (.bool true) (.int .i64 c.f0) (.int .i64 c.f1) (.slice none 0 0))
    have XCq := Aside0.mk ((far4 wA g (.bool true) (.int .i64 c.f0) (.int .i64 c.f1) (.slice none 0 0) w.heap.size (by have := LG.out; omega)).trans XC.out)
    have XSq := Aside0.mk ((far4 wA g (.bool true) (.int .i64 c.f0) (.int .i64 c.f1) (.slice none 0 0) (w.heap.size + 1) (by have := LG.out; omega)).trans XS.out)
    have KQ := Aside0.mk ((((KA.out.set_g 0 (.bool true)).set_g 1 (.int .i64 c.f0)).set_g 2 (.int .i64 c.f1)).set_g 3 (.slice none 0 0))
    have SQ : Aside0 (((((wA.setCell ⟨g, 0, none⟩ (.bool true)).setCell ⟨g, 1, none⟩ (.int .i64 c.f0)).setCell ⟨g, 2, none⟩ (.int .i64 c.f1)).setCell ⟨g, 3, none⟩ (.slice none 0 0)).heap.size = w.heap.size + 2) := ⟨by rw [← SZ.out]; simp only [World.setCell, Array.size_modify]⟩
    clear XG XC XS KA SZ HO VT VL eXC_0 eXC_1 eXC_2 eXC_3 eXC_4 eXG_0 eXG_1 eXG_2 eXG_3 z0
    generalize (((wA.setCell ⟨g, 0, none⟩ (.bool true)).setCell ⟨g, 1, none⟩ (.int .i64 c.f0)).setCell ⟨g, 2, none⟩ (.int .i64 c.f1)).setCell ⟨g, 3, none⟩ (.slice none 0 0) = wq at XGq XCq XSq KQ SQ ⊢
    have HOq : Aside0 (wq.ownsRow (g + 1) 5 1 (.slice none 0 0) (bytesOf (⟨#[]⟩ : ByteArray)).length (nums .u8 (bytesOf (⟨#[]⟩ : ByteArray)))) := ⟨own_nil _ _ _ _⟩
    have VTq : Aside0 (∀ k, (Value.slice none 0 0).ownBlock = some k → k < w.heap.size → g < k ∧ ∃ cs, w.heap[k]? = some (.cells cs 5 (0, 0))) := ⟨fun k hk => by cases hk⟩
    have VLq : Aside0 (∀ k, (Value.slice none 0 0).ownBlock = some k → k < w.heap.size) := ⟨fun k hk => by cases hk⟩
    have HTq : Aside0 ((⟨#[]⟩ : ByteArray).size ≤ 262144) := ⟨Nat.zero_le _⟩
    obtain ⟨ii, hii⟩ : ∃ ii, ii = c.f0 := ⟨_, rfl⟩
    obtain ⟨tt, htt⟩ : ∃ tt, tt = c.f1 := ⟨_, rfl⟩
    obtain ⟨TT, hTT⟩ : ∃ TT : ByteArray, TT = ⟨#[]⟩ := ⟨_, rfl⟩
    obtain ⟨vv, hvv⟩ : ∃ vv : Value, vv = .slice none 0 0 := ⟨_, rfl⟩
    have TKq : Aside0 (takeK b i t T c = takeT ii tt TT c) := ⟨by rw [hii, htt, hTT]; exact TK.out⟩
    have XG2 : Aside0 (wq.heap[g]? = some (.cells #[.bool true, .int .i64 ii, .int .i64 tt, vv] 113 (0, 0))) := ⟨by rw [hii, htt, hvv]; exact XGq.out⟩
    have HO2 : Aside0 (wq.ownsRow (g + 1) 5 1 vv (bytesOf TT).length (nums .u8 (bytesOf TT))) := ⟨by rw [hvv, hTT]; exact HOq.out⟩
    have VT2 : Aside0 (∀ k, vv.ownBlock = some k → k < w.heap.size → g < k ∧ ∃ cs, w.heap[k]? = some (.cells cs 5 (0, 0))) := ⟨by rw [hvv]; exact VTq.out⟩
    have VL2 : Aside0 (∀ k, vv.ownBlock = some k → k < w.heap.size) := ⟨by rw [hvv]; exact VLq.out⟩
    have HT2 : Aside0 (TT.size ≤ 262144) := ⟨by rw [hTT]; exact HTq.out⟩
    clear hii htt hTT hvv TK XGq HOq VTq VLq HTq HT
    obtain ⟨Av, cv, hv⟩ := own_slice HO2.out
    rw [bytesOf_length] at hv
    subst hv
    have TK : Aside0 (takeK b i t T c = takeT ii tt TT c) := TKq
    clear TKq
    have eCq_4 := (blk_cell XCq.out 4).trans rfl
    have eGq_3 := (blk_cell XG2.out 3).trans rfl
    by_cases hbig : TT.size + c.f4.size > 262144
    · have hs9 : (262144 < wrap64 ((TT.size : Int) + (c.f4.size : Int))) = True := eq_true (by rw [IntWalk.wrap64_in _ (by have := HT2.out; have := HCD.out; omega)]; omega)
      have TK2 : Aside0 (takeK b i t T c = ((false, 0, 0, ⟨#[]⟩), zR 0)) := ⟨TK.out.trans (if_pos hbig)⟩
      clear hbig TK
      go_quiet (fail)
      generalize nq = nz
      generalize hwz : wq.drewN nz = wz
      have XGz : Aside0 (wz.heap[g]? = some (.cells #[.bool true, .int .i64 ii, .int .i64 tt, .slice Av TT.size cv] 113 (0, 0))) := ⟨by rw [← hwz]; exact XG2.out⟩
      have XCz : Aside0 (wz.heap[w.heap.size]? = some (.cells #[.int .i64 c.f0, .int .i64 c.f1, .int .i64 c.f2, .bool c.f3, .string c.f4] 65 (0, 0))) := ⟨by rw [← hwz]; exact XCq.out⟩
      have XSz : Aside0 (wz.heap[w.heap.size + 1]? = some (.cells #[.int .i64 0, .int .i64 0, .slice none 0 0, .string ⟨#[]⟩] 24 (0, 0))) := ⟨by rw [← hwz]; exact XSq.out⟩
      have HOz : Aside0 (wz.ownsRow (g + 1) 5 1 (.slice Av TT.size cv) (bytesOf TT).length (nums .u8 (bytesOf TT))) := ⟨by rw [← hwz]; exact own_heap HO2.out (fun _ _ => rfl)⟩
      have KZ : Aside0 (KG g w wz) := ⟨by rw [← hwz]; exact KQ.out.below (pw_below_drewN (Below.refl _ _) nz)⟩
      have SZz : Aside0 (wz.heap.size = w.heap.size + 2) := ⟨by rw [← hwz]; exact SQ.out⟩
      clear hwz XG2 XCq XSq HO2 KQ SQ
      clear eCq_4 eGq_3 XCz HOz hs9
      have eGz_0 := (blk_cell XGz.out 0).trans rfl
      have eGz_1 := (blk_cell XGz.out 1).trans rfl
      have eGz_2 := (blk_cell XGz.out 2).trans rfl
      have eGz_3 := (blk_cell XGz.out 3).trans rfl
      have fXGz_0 := blk_frozen XGz.out 0
      have fXGz_1 := blk_frozen XGz.out 1
      have fXGz_2 := blk_frozen XGz.out 2
      have fXGz_3 := blk_frozen XGz.out 3
      go_upto_region 11 with (fail)
      have XGx := Aside0.mk (blk4 XGz.out (.bool false) (.int .i64 0) (.int .i64 0) (.slice none 0 0))
      have XSx := Aside0.mk ((far4 wz g (.bool false) (.int .i64 0) (.int .i64 0) (.slice none 0 0) (w.heap.size + 1) (by have := LG.out; omega)).trans XSz.out)
      have KX := Aside0.mk ((((KZ.out.set_g 0 (.bool false)).set_g 1 (.int .i64 0)).set_g 2 (.int .i64 0)).set_g 3 (.slice none 0 0))
      clear XGz XSz KZ eGz_0 eGz_1 eGz_2 eGz_3
      generalize (((wz.setCell ⟨g, 0, none⟩ (.bool false)).setCell ⟨g, 1, none⟩ (.int .i64 0)).setCell ⟨g, 2, none⟩ (.int .i64 0)).setCell ⟨g, 3, none⟩ (.slice none 0 0) = wx at XGx XSx KX ⊢
      have eXSx_0 := (blk_cell XSx.out 0).trans rfl
      have eXSx_1 := (blk_cell XSx.out 1).trans rfl
      have eXSx_2 := (blk_cell XSx.out 2).trans rfl
      have eXSx_3 := (blk_cell XSx.out 3).trans rfl
      have fXSx_0 := blk_frozen XSx.out 0
      have fXSx_1 := blk_frozen XSx.out 1
      have fXSx_2 := blk_frozen XSx.out 2
      have fXSx_3 := blk_frozen XSx.out 3
      go_wp2
      refine bodyPost_ret (results_ctt rfl _ _ (w.heap.size + 1) 24 #[.int .i64 0, .int .i64 0, .slice none 0 0, .string ⟨#[]⟩] (0, 0) _ rfl (blk4 (XSx.out) _ _ _ _) rfl rfl rfl) rfl ?_
      refine ⟨.slice none 0 0, ?_, ?_, ?_, ?_⟩
      · rw [TK2.out]; rfl
      · rw [TK2.out]; exact Kd.R_nil _ _ _ _ _
      · rw [TK2.out]; exact ⟨Nat.zero_le _, _, (far4 _ _ _ _ _ _ g (by have := LG.out; omega)).trans XGx.out, own_nil _ _ _ _⟩
      · exact (((KX.out.far (by omega) 0 _).far (by omega) 1 _).far (by omega) 2 _).far (by omega) 3 _
    · have hs9 : (262144 < wrap64 ((TT.size : Int) + (c.f4.size : Int))) = False := eq_false (by rw [IntWalk.wrap64_in _ (by have := HT2.out; have := HCD.out; omega)]; omega)
      have TK2 : Aside0 (takeK b i t T c = (if c.f3 = false then ((true, ii, tt, TT ++ c.f4), zR ((TT ++ c.f4).size : Int)) else if (decS 7 (TT ++ c.f4)).2.2.2.2 ≠ 0 ∨ (decS 7 (TT ++ c.f4)).1 ≠ c.f0 ∨ (decS 7 (TT ++ c.f4)).2.1 ≠ c.f1 then ((false, 0, 0, ⟨#[]⟩), zR 0) else ((false, 0, 0, ⟨#[]⟩), (((decS 7 (TT ++ c.f4)).1, (decS 7 (TT ++ c.f4)).2.1, (decS 7 (TT ++ c.f4)).2.2.1, (decS 7 (TT ++ c.f4)).2.2.2.1), true, 0)))) := ⟨TK.out.trans (if_neg hbig)⟩
      have HB : Aside0 ((TT ++ c.f4).size ≤ 262144) := ⟨by rw [size_app]; omega⟩
      clear hbig TK
      go_quiet (fail)
      generalize nq = nz
      generalize hwz : wq.drewN nz = wz
      have XGz : Aside0 (wz.heap[g]? = some (.cells #[.bool true, .int .i64 ii, .int .i64 tt, .slice Av TT.size cv] 113 (0, 0))) := ⟨by rw [← hwz]; exact XG2.out⟩
      have XCz : Aside0 (wz.heap[w.heap.size]? = some (.cells #[.int .i64 c.f0, .int .i64 c.f1, .int .i64 c.f2, .bool c.f3, .string c.f4] 65 (0, 0))) := ⟨by rw [← hwz]; exact XCq.out⟩
      have XSz : Aside0 (wz.heap[w.heap.size + 1]? = some (.cells #[.int .i64 0, .int .i64 0, .slice none 0 0, .string ⟨#[]⟩] 24 (0, 0))) := ⟨by rw [← hwz]; exact XSq.out⟩
      have HOz : Aside0 (wz.ownsRow (g + 1) 5 1 (.slice Av TT.size cv) (bytesOf TT).length (nums .u8 (bytesOf TT))) := ⟨by rw [← hwz]; exact own_heap HO2.out (fun _ _ => rfl)⟩
      have KZ : Aside0 (KG g w wz) := ⟨by rw [← hwz]; exact KQ.out.below (pw_below_drewN (Below.refl _ _) nz)⟩
      have SZz : Aside0 (wz.heap.size = w.heap.size + 2) := ⟨by rw [← hwz]; exact SQ.out⟩
      clear hwz XG2 XCq XSq HO2 KQ SQ
      clear eCq_4 eGq_3 hs9
      go_upto_region 12 with (fail)
      refine start_ (n := 11) (S := (fun w' => w'.cell? ⟨g, 3, none⟩ = some (.slice Av TT.size cv) ∧ w'.cell? ⟨w.heap.size, 4, none⟩ = some (.string c.f4))) (ds := [10]) #[false, false, false, false, false, false, false, false, false, false, false] (by kernel_rfl) rfl rfl ⟨(blk_cell XGz.out 3).trans rfl, (blk_cell XCz.out 4).trans rfl⟩ (fun hHeld => ?_)
      generalize hwy : wz.drew = wy at hHeld ⊢
      have XGy : Aside0 (wy.heap[g]? = some (.cells #[.bool true, .int .i64 ii, .int .i64 tt, .slice Av TT.size cv] 113 (0, 0))) := ⟨by rw [← hwy]; exact XGz.out⟩
      have XCy : Aside0 (wy.heap[w.heap.size]? = some (.cells #[.int .i64 c.f0, .int .i64 c.f1, .int .i64 c.f2, .bool c.f3, .string c.f4] 65 (0, 0))) := ⟨by rw [← hwy]; exact XCz.out⟩
      have XSy : Aside0 (wy.heap[w.heap.size + 1]? = some (.cells #[.int .i64 0, .int .i64 0, .slice none 0 0, .string ⟨#[]⟩] 24 (0, 0))) := ⟨by rw [← hwy]; exact XSz.out⟩
      have HOy : Aside0 (wy.ownsRow (g + 1) 5 1 (.slice Av TT.size cv) (bytesOf TT).length (nums .u8 (bytesOf TT))) := ⟨by rw [← hwy]; exact own_heap HOz.out (fun _ _ => rfl)⟩
      have KY : Aside0 (KG g w wy) := ⟨by rw [← hwy]; exact KZ.out.below (pw_below_drewN (Below.refl _ _) 1)⟩
      have SY : Aside0 (wy.heap.size = w.heap.size + 2) := ⟨by rw [← hwy]; exact SZz.out⟩
      clear hwy XGz XCz XSz HOz KZ SZz
      refine pure_ (i := 0) (N := some 78) (v := ?_) (a' := ?_) #[true, false, false, false, false, false, false, false, false, false, false] rfl rfl (by kernel_rfl) (fun _ _ _ h => h) (Or.inl ⟨by rfl, ?_⟩) ?_ ?_
      rotate_left
      · intro w'
        go_simp
        with_reducible rfl
      rotate_left
      · simp only [Act.put, List.setIfInBounds_toArray, List.set_cons_zero, List.set_cons_succ]
        rfl
      refine pure_ (i := 1) (N := some 79) (v := ?_) (a' := ?_) #[true, true, false, false, false, false, false, false, false, false, false] rfl rfl (by kernel_rfl) (fun _ _ _ h => h) (Or.inl ⟨by rfl, ?_⟩) ?_ ?_
      rotate_left
      · intro w'
        go_simp
        with_reducible rfl
      rotate_left
      · simp only [Act.put, List.setIfInBounds_toArray, List.set_cons_zero, List.set_cons_succ]
        rfl
      refine pure_ (i := 2) (N := some 80) (v := ?_) (a' := ?_) #[true, true, true, false, false, false, false, false, false, false, false] rfl rfl (by kernel_rfl) (fun _ _ _ h => h) (Or.inl ⟨by rfl, ?_⟩) ?_ ?_
      rotate_left
      · intro w'
        go_simp
        with_reducible rfl
      rotate_left
      · simp only [Act.put, List.setIfInBounds_toArray, List.set_cons_zero, List.set_cons_succ]
        rfl
      refine pure_ (i := 3) (N := some 81) (v := ?_) (a' := ?_) #[true, true, true, true, false, false, false, false, false, false, false] rfl rfl (by kernel_rfl) (fun _ _ _ h => h) (Or.inl ⟨by rfl, ?_⟩) ?_ ?_
      rotate_left
      · intro w'
        go_simp
        with_reducible rfl
      rotate_left
      · simp only [Act.put, List.setIfInBounds_toArray, List.set_cons_zero, List.set_cons_succ]
        rfl
      refine take_ (i := 4) (N := some 82) (v := ?_) (a' := ?_) #[true, true, true, true, true, false, false, false, false, false, false] rfl rfl (by kernel_rfl) (fun _ _ _ h => h) (Or.inl ⟨by rfl, ?_⟩) (by first | exact hHeld | assumption) ?_ ?_
      rotate_left
      · rintro w' ⟨s0, s1⟩
        go_simp
        with_reducible rfl
      rotate_left
      · simp only [Act.put, List.setIfInBounds_toArray, List.set_cons_zero, List.set_cons_succ]
        rfl
      refine pure_ (i := 5) (N := some 83) (v := ?_) (a' := ?_) #[true, true, true, true, true, true, false, false, false, false, false] rfl rfl (by kernel_rfl) (fun _ _ _ h => h) (Or.inl ⟨by rfl, ?_⟩) ?_ ?_
      rotate_left
      · intro w'
        go_simp
        with_reducible rfl
      rotate_left
      · simp only [Act.put, List.setIfInBounds_toArray, List.set_cons_zero, List.set_cons_succ]
        rfl
      refine take_ (i := 6) (N := some 84) (v := ?_) (a' := ?_) #[true, true, true, true, true, true, true, false, false, false, false] rfl rfl (by kernel_rfl) (fun _ _ _ h => h) (Or.inl ⟨by rfl, ?_⟩) (by first | exact hHeld | assumption) ?_ ?_
      rotate_left
      · rintro w' ⟨s0, s1⟩
        go_simp
        with_reducible rfl
      rotate_left
      · simp only [Act.put, List.setIfInBounds_toArray, List.set_cons_zero, List.set_cons_succ]
        rfl
      refine one_ (i := 7) (N := some 85) #[true, true, true, true, true, true, true, true, false, false, false] rfl rfl (by kernel_rfl) (by decide) (fun K hK => ?_)
      refine step_append_str (w0 := wy) (g + 1) (by rfl) (.tmp 82) (.tmp 84) 111 9 5 (by rfl) Try.underlying111 Try.underlying9 info5 (.slice Av TT.size cv) TT c.f4 (by rfl) (by rfl) HOy.out (Below.refl _ _) (by have := SY.out; have := LG.out; omega) (by have := HB.out; rw [size_app] at this; omega) ?_
      intro v1 wp hO1 _ hG1
      have XGw := Aside0.mk ((hG1.block g (by have := SY.out; have := LG.out; omega) (fun e => by have := own_base HOy.out g e.symm; omega)).trans XGy.out)
      have XCw := Aside0.mk ((hG1.block w.heap.size (by have := SY.out; omega) (fun e => by have := VL2.out _ e.symm; omega)).trans XCy.out)
      have XSw := Aside0.mk ((hG1.block (w.heap.size + 1) (by have := SY.out; omega) (fun e => by have := VL2.out _ e.symm; omega)).trans XSy.out)
      have KW := Aside0.mk (KY.out.grown hG1 (fun k hk hlt => VT2.out k hk hlt))
      have SW : Aside0 (w.heap.size + 2 ≤ wp.heap.size) := ⟨Nat.le_trans (Nat.le_of_eq SY.out.symm) hG1.size⟩
      have VW : Aside0 (∀ k, v1.ownBlock = some k → k ≠ w.heap.size ∧ k ≠ w.heap.size + 1) := ⟨fun k hk => own_new hO1 hG1 XCw.out XSw.out k hk⟩
      obtain ⟨A1, c1, hv1⟩ := own_slice hO1
      rw [bytesOf_length] at hv1
      obtain ⟨N, hN⟩ : ∃ N, N = (TT ++ c.f4).size := ⟨_, rfl⟩
      rw [← hN] at hv1
      have HN := Aside0.mk hN
      clear hN
      subst hv1
      have HOw := Aside0.mk hO1
      clear hO1 hG1 XGy XCy XSy HOy KY SY
      refine hK.out _ _ ⟨(blk_cell XGw.out 3).trans rfl, (blk_cell XCw.out 4).trans rfl⟩ (fun hHeld => ?_)
      clear hK K
      refine norm_ (a' := ?_) ?_ ?_
      rotate_left
      · show Act.put _ (some 85) _ = _
        simp only [Act.put, List.setIfInBounds_toArray, List.set_cons_zero, List.set_cons_succ]
        rfl
      refine pure_ (i := 8) (N := some 86) (v := ?_) (a' := ?_) #[true, true, true, true, true, true, true, true, true, false, false] rfl rfl (by kernel_rfl) (fun _ _ _ h => h) (Or.inl ⟨by rfl, ?_⟩) ?_ ?_
      rotate_left
      · intro w'
        go_simp
        with_reducible rfl
      rotate_left
      · simp only [Act.put, List.setIfInBounds_toArray, List.set_cons_zero, List.set_cons_succ]
        rfl
      refine pure_ (i := 9) (N := some 87) (v := ?_) (a' := ?_) #[true, true, true, true, true, true, true, true, true, true, false] rfl rfl (by kernel_rfl) (fun _ _ _ h => h) (Or.inl ⟨by rfl, ?_⟩) ?_ ?_
      rotate_left
      · intro w'
        go_simp
        with_reducible rfl
      rotate_left
      · simp only [Act.put, List.setIfInBounds_toArray, List.set_cons_zero, List.set_cons_succ]
        rfl
      refine last_ (i := 10) (N := none) #[true, true, true, true, true, true, true, true, true, true, true] rfl rfl (by kernel_rfl) (by decide) (fun K hK => ?_)
      have hcl : wp.cell? ⟨g, 3, none⟩ = some (.slice Av TT.size cv) := (blk_cell XGw.out 3).trans rfl
      have hfr : wp.frozen? ⟨g, 3, none⟩ = false := blk_frozen XGw.out 3
      refine skip_ (w1 := ?_) (by rfl) rfl ?_ ?_
      rotate_left
      · go_simp
        rfl
      refine hK.out _ _ ?_
      clear hK K hcl hfr
      refine done_ (by kernel_rfl) ?_
      have XGx := Aside0.mk (blk_put (cs' := #[.bool true, .int .i64 ii, .int .i64 tt, .slice A1 N c1]) XGw.out 3 (.slice A1 N c1) rfl)
      have XCx := Aside0.mk ((Below.heap_setCell wp ⟨g, 3, none⟩ (.slice A1 N c1) w.heap.size (by show w.heap.size ≠ g; have := LG.out; omega)).trans XCw.out)
      have XSx := Aside0.mk ((Below.heap_setCell wp ⟨g, 3, none⟩ (.slice A1 N c1) (w.heap.size + 1) (by show w.heap.size + 1 ≠ g; have := LG.out; omega)).trans XSw.out)
      have HOx := Aside0.mk (own_heap (w' := wp.setCell ⟨g, 3, none⟩ (.slice A1 N c1)) HOw.out (fun k hk => Below.heap_setCell wp ⟨g, 3, none⟩ _ k (by show k ≠ g; have := own_base HOw.out k hk; omega)))
      have KX := Aside0.mk (KW.out.set_g 3 (.slice A1 N c1))
      have SX : Aside0 (w.heap.size + 2 ≤ (wp.setCell ⟨g, 3, none⟩ (.slice A1 N c1)).heap.size) := ⟨by simp only [World.setCell, Array.size_modify]; exact SW.out⟩
      clear XGw XCw XSw HOw KW SW hHeld
      generalize wp.setCell ⟨g, 3, none⟩ (.slice A1 N c1) = wx at XGx XCx XSx HOx KX SX ⊢
      have eCx_3 := (blk_cell XCx.out 3).trans rfl
      generalize TT ++ c.f4 = U at *
      have HLEN : Aside0 ((bytesOf U).length = U.size) := ⟨bytesOf_length U⟩
      by_cases h3 : c.f3 = false
      · have TK3 : Aside0 (takeK b i t T c = ((true, ii, tt, U), zR (N : Int))) := ⟨by rw [HN.out]; exact TK2.out.trans (if_pos h3)⟩
        rw [h3] at eCx_3
        clear h3 TK2
        go_upto_region 14 with (fail)
        have eXSx_0 := (blk_cell XSx.out 0).trans rfl
        have eXSx_1 := (blk_cell XSx.out 1).trans rfl
        have eXSx_2 := (blk_cell XSx.out 2).trans rfl
        have eXSx_3 := (blk_cell XSx.out 3).trans rfl
        have fXSx_0 := blk_frozen XSx.out 0
        have fXSx_1 := blk_frozen XSx.out 1
        have fXSx_2 := blk_frozen XSx.out 2
        have fXSx_3 := blk_frozen XSx.out 3
        have eGx_3 := (blk_cell XGx.out 3).trans rfl
        have hSx : ((((wx.setCell ⟨w.heap.size + 1, 0, none⟩ (.int .i64 0)).setCell ⟨w.heap.size + 1, 1, none⟩ (.int .i64 0)).setCell ⟨w.heap.size + 1, 2, none⟩ (.slice none 0 0)).setCell ⟨w.heap.size + 1, 3, none⟩ (.string ⟨#[]⟩)).cell? ⟨g, 3, none⟩ = some (.slice A1 N c1) := (World.cell?_of_block (a := ⟨g, 3, none⟩) (far4 wx (w.heap.size + 1) (.int .i64 0) (.int .i64 0) (.slice none 0 0) (.string ⟨#[]⟩) g (by have := LG.out; omega))).trans ((blk_cell XGx.out 3).trans rfl)
        have hSd : ((((wx.setCell ⟨w.heap.size + 1, 0, none⟩ (.int .i64 0)).setCell ⟨w.heap.size + 1, 1, none⟩ (.int .i64 0)).setCell ⟨w.heap.size + 1, 2, none⟩ (.slice none 0 0)).setCell ⟨w.heap.size + 1, 3, none⟩ (.string ⟨#[]⟩)).drew.cell? ⟨g, 3, none⟩ = some (.slice A1 N c1) := hSx
        go_region_held3 (fun w' => w'.cell? ⟨g, 3, none⟩ = some (.slice A1 N c1)) (first | go_keep | exact hSx | exact hSd | assumption) (fail)
        go_wp2
        refine bodyPost_ret (results_ctt rfl _ _ (w.heap.size + 1) 24 #[.int .i64 0, .int .i64 0, .slice none 0 0, .string ⟨#[]⟩] (0, 0) _ rfl (blk4 (XSx.out) _ _ _ _) rfl rfl rfl) rfl ?_
        refine ⟨.slice none 0 0, ?_, ?_, ?_, ?_⟩
        · rw [TK3.out]; rfl
        · rw [TK3.out]; exact Kd.R_nil _ _ _ _ _
        · rw [TK3.out]; exact ⟨HB.out, _, (far4 _ _ _ _ _ _ g (by have := LG.out; omega)).trans XGx.out, own_heap HOx.out (fun k hk => far4 _ _ _ _ _ _ k (VW.out k hk).2)⟩
        · have kx := (((KX.out.far (q := w.heap.size + 1) (by omega) 0 (.int .i64 0)).far (q := w.heap.size + 1) (by omega) 1 (.int .i64 0)).far (q := w.heap.size + 1) (by omega) 2 (.slice none 0 0)).far (q := w.heap.size + 1) (by omega) 3 (.string ⟨#[]⟩)
          exact ⟨kx.os, kx.tape, kx.output, kx.size, kx.block⟩
      · have h3t : c.f3 = true := by cases hc : c.f3 with
          | true => rfl
          | false => exact absurd hc h3
        have TK3 := Aside0.mk (TK2.out.trans (if_neg h3))
        rw [h3t] at eCx_3
        clear h3 h3t TK2
        have hcv : (convert 111 9 (.slice A1 N c1)).run Try.prog wx = .ok (.string U) wx := by
          have := own_string (P := Try.prog) (src := 111) (dst := 9) Try.underlying111 (by first | exact Try.underlying5 | rfl) Try.underlying9 HOx.out
          rw [str_bytes] at this
          exact this
        have eGx_3 := (blk_cell XGx.out 3).trans rfl
        obtain ⟨k2, hk2⟩ := (dec_ev U (Nat.le_trans HB.out (by decide))).rounds
        obtain ⟨r, hr⟩ : ∃ r, r = decS 7 U := ⟨_, rfl⟩
        rw [← hr] at hk2
        have TK4 := TK3.out
        rw [← hr] at TK4
        have TK5 := Aside0.mk TK4
        obtain ⟨r1, r2, r3, r4, r5⟩ := r
        have HD := Aside0.mk hk2
        clear hk2 hr TK3 TK4
        go_wp2_with (fail)
        refine (shot_Decode.calls k2 U r1 r2 r3 r4 r5 _ HD.out).mono ?_
        rintro e w5 ⟨v5, rfl, hR, hb⟩
        obtain ⟨A5, c5, rfl⟩ := Kd.R_slice hR
        have b6 : Below w5.heap.size w5 (w5.alloc (.cells #[.int .i64 r1, .int .i64 r2, .slice A5 r3.length c5, .string r4] 24 (0, 0))) := below_alloc (Below.refl _ _) _
        have hbb := hb.trans (b6.mono hb.size)
        have XG6 := Aside0.mk ((hbb.block g (by have := SX.out; have := LG.out; omega)).trans XGx.out)
        have XC6 := Aside0.mk ((hbb.block w.heap.size (by have := SX.out; omega)).trans XCx.out)
        have XS6 := Aside0.mk ((hbb.block (w.heap.size + 1) (by have := SX.out; omega)).trans XSx.out)
        have YB6 := Aside0.mk (heap_alloc_new w5 (.cells #[.int .i64 r1, .int .i64 r2, .slice A5 r3.length c5, .string r4] 24 (0, 0)))
        have K6 := Aside0.mk (KX.out.below hbb)
        have R6 := Aside0.mk (Kd.R_bound (Kd.R_below hR b6))
        have N5 : Aside0 (w.heap.size + 2 ≤ w5.heap.size) := ⟨Nat.le_trans SX.out hb.size⟩
        clear hR hb b6 hbb XGx XCx XSx HOx KX VW hcv eGx_3 eCx_3
        go_upto_region 16 with (fail)
        generalize w5.alloc (.cells #[.int .i64 r1, .int .i64 r2, .slice A5 r3.length c5, .string r4] 24 (0, 0)) = w6 at XG6 XC6 XS6 YB6 K6 R6 ⊢
        have eXG6_0 := (blk_cell XG6.out 0).trans rfl
        have eXG6_1 := (blk_cell XG6.out 1).trans rfl
        have eXG6_2 := (blk_cell XG6.out 2).trans rfl
        have eXG6_3 := (blk_cell XG6.out 3).trans rfl
        have fXG6_0 := blk_frozen XG6.out 0
        have fXG6_1 := blk_frozen XG6.out 1
        have fXG6_2 := blk_frozen XG6.out 2
        have fXG6_3 := blk_frozen XG6.out 3
        go_upto_region 17 with (fail)
        have XGf := Aside0.mk (blk4 XG6.out (.bool false) (.int .i64 0) (.int .i64 0) (.slice none 0 0))
        have XCf := Aside0.mk ((far4 w6 g (.bool false) (.int .i64 0) (.int .i64 0) (.slice none 0 0) w.heap.size (by have := LG.out; omega)).trans XC6.out)
        have XSf := Aside0.mk ((far4 w6 g (.bool false) (.int .i64 0) (.int .i64 0) (.slice none 0 0) (w.heap.size + 1) (by have := LG.out; omega)).trans XS6.out)
        have YBf := Aside0.mk ((far4 w6 g (.bool false) (.int .i64 0) (.int .i64 0) (.slice none 0 0) w5.heap.size (by have := LG.out; have := N5.out; omega)).trans YB6.out)
        have KF := Aside0.mk ((((K6.out.set_g 0 (.bool false)).set_g 1 (.int .i64 0)).set_g 2 (.int .i64 0)).set_g 3 (.slice none 0 0))
        have RF := Aside0.mk (Kd.R_bound (Kd.R_step R6.out (fun k hk _ => far4 w6 g (.bool false) (.int .i64 0) (.int .i64 0) (.slice none 0 0) k (by have := hk.2.1; have := SX.out; have := LG.out; omega))))
        clear XG6 XC6 XS6 YB6 K6 R6 eXG6_0 fXG6_0 eXG6_1 fXG6_1 eXG6_2 fXG6_2 eXG6_3 fXG6_3
        generalize (((w6.setCell ⟨g, 0, none⟩ (.bool false)).setCell ⟨g, 1, none⟩ (.int .i64 0)).setCell ⟨g, 2, none⟩ (.int .i64 0)).setCell ⟨g, 3, none⟩ (.slice none 0 0) = wf at XGf XCf XSf YBf KF RF ⊢
        have eXCf_0 := (blk_cell XCf.out 0).trans rfl
        have eXCf_1 := (blk_cell XCf.out 1).trans rfl
        have eYBf_0 := (blk_cell YBf.out 0).trans rfl
        have eYBf_1 := (blk_cell YBf.out 1).trans rfl
        have eYBf_2 := (blk_cell YBf.out 2).trans rfl
        have eYBf_3 := (blk_cell YBf.out 3).trans rfl
        have eXSf_0 := (blk_cell XSf.out 0).trans rfl
        have eXSf_1 := (blk_cell XSf.out 1).trans rfl
        have eXSf_2 := (blk_cell XSf.out 2).trans rfl
        have eXSf_3 := (blk_cell XSf.out 3).trans rfl
        have fXSf_0 := blk_frozen XSf.out 0
        have fXSf_1 := blk_frozen XSf.out 1
        have fXSf_2 := blk_frozen XSf.out 2
        have fXSf_3 := blk_frozen XSf.out 3
        have hfar : w.heap.size + 1 ≠ w5.heap.size := by have := N5.out; omega
        have hfar2 : (w5.heap.size = w.heap.size + 1) = False := eq_false (by have := N5.out; omega)
        by_cases hok : r5 ≠ 0 ∨ r1 ≠ c.f0 ∨ r2 ≠ c.f1
        · have TK6 : Aside0 (takeK b i t T c = ((false, 0, 0, ⟨#[]⟩), zR 0)) := ⟨TK5.out.trans (if_pos hok)⟩
          have HOK := Aside0.mk hok
          clear hok TK5
          have FIN : Aside0 (∀ w', w' = ((((wf.setCell ⟨w.heap.size + 1, 0, none⟩ (.int .i64 0)).setCell ⟨w.heap.size + 1, 1, none⟩ (.int .i64 0)).setCell ⟨w.heap.size + 1, 2, none⟩ (.slice none 0 0)).setCell ⟨w.heap.size + 1, 3, none⟩ (.string ⟨#[]⟩)) → Kd.R (Kd.int .i64) 3 w' w.heap.size (fun k => w.heap.size ≤ k) (.slice none 0 0) (takeK b i t T c).2.1.2.2.1 ∧ IsG w' g (takeK b i t T c).1.1 (takeK b i t T c).1.2.1 (takeK b i t T c).1.2.2.1 (takeK b i t T c).1.2.2.2 ∧ KG g w w') := ⟨fun w' hw => by
            subst hw
            rw [TK6.out]
            exact ⟨Kd.R_nil _ _ _ _ _, ⟨Nat.zero_le _, _, (far4 _ _ _ _ _ _ g (by have := LG.out; omega)).trans XGf.out, own_nil _ _ _ _⟩, (((KF.out.far (by omega) 0 _).far (by omega) 1 _).far (by omega) 2 _).far (by omega) 3 _⟩⟩
          have d1 : r5 = 0 ∨ (r5 != 0) = true := (Decidable.em (r5 = 0)).imp id (fun h => bne_iff_ne.mpr h)
          have d2 : (r1 != c.f0) = false ∨ (r1 != c.f0) = true := by cases (r1 != c.f0) <;> simp
          rcases d1 with d1 | d1
          · have d1' : (r5 != 0) = false := bne_eq_false_iff_eq.mpr d1
            rcases d2 with d2 | d2
            · have d3 : (r2 != c.f1) = true := bne_iff_ne.mpr (HOK.out.elim (fun h => absurd d1 h) (fun h => h.elim (fun h => absurd (bne_eq_false_iff_eq.1 d2) h) id))
              clear d1
              go_wp2
              refine bodyPost_ret (results_ctt rfl _ _ (w.heap.size + 1) 24 #[.int .i64 0, .int .i64 0, .slice none 0 0, .string ⟨#[]⟩] (0, 0) _ rfl (blk4 (XSf.out) _ _ _ _) rfl rfl rfl) rfl ?_
              exact ⟨.slice none 0 0, by rw [TK6.out]; rfl, FIN.out _ rfl⟩
            · clear d1
              go_wp2
              refine bodyPost_ret (results_ctt rfl _ _ (w.heap.size + 1) 24 #[.int .i64 0, .int .i64 0, .slice none 0 0, .string ⟨#[]⟩] (0, 0) _ rfl (blk4 (XSf.out) _ _ _ _) rfl rfl rfl) rfl ?_
              exact ⟨.slice none 0 0, by rw [TK6.out]; rfl, FIN.out _ rfl⟩
          · clear d2
            go_wp2
            refine bodyPost_ret (results_ctt rfl _ _ (w.heap.size + 1) 24 #[.int .i64 0, .int .i64 0, .slice none 0 0, .string ⟨#[]⟩] (0, 0) _ rfl (blk4 (XSf.out) _ _ _ _) rfl rfl rfl) rfl ?_
            exact ⟨.slice none 0 0, by rw [TK6.out]; rfl, FIN.out _ rfl⟩
        · have TK6 : Aside0 (takeK b i t T c = ((false, 0, 0, ⟨#[]⟩), ((r1, r2, r3, r4), true, 0))) := ⟨TK5.out.trans (if_neg hok)⟩
          have d1 : (r5 != 0) = false := bne_eq_false_iff_eq.mpr (Decidable.byContradiction (fun h => hok (Or.inl h)))
          have d2 : (r1 != c.f0) = false := bne_eq_false_iff_eq.mpr (Decidable.byContradiction (fun h => hok (Or.inr (Or.inl h))))
          have d3 : (r2 != c.f1) = false := bne_eq_false_iff_eq.mpr (Decidable.byContradiction (fun h => hok (Or.inr (Or.inr h))))
          clear hok TK5
          go_wp2
          refine bodyPost_ret (results_ctt rfl _ _ (w.heap.size + 1) 24 #[.int .i64 r1, .int .i64 r2, .slice A5 r3.length c5, .string r4] (0, 0) _ rfl (blk4 (XSf.out) _ _ _ _) rfl rfl rfl) rfl ?_
          refine ⟨.slice A5 r3.length c5, ?_, ?_, ?_, ?_⟩
          · rw [TK6.out]; rfl
          · rw [TK6.out]; exact Kd.R_mono (Kd.R_lower (Kd.R_step RF.out (fun k hk _ => far4 _ _ _ _ _ _ k (by have := hk.2.1; have := SX.out; omega))) (by have := SX.out; omega)) (fun k hk => by have := hk.2.1; have := SX.out; omega)
          · rw [TK6.out]; exact ⟨Nat.zero_le _, _, (far4 _ _ _ _ _ _ g (by have := LG.out; omega)).trans XGf.out, own_nil _ _ _ _⟩
          · exact (((KF.out.far (by omega) 0 _).far (by omega) 1 _).far (by omega) 2 _).far (by omega) 3 _
  · have z0 : (c.f2 == 0) = false := beq_eq_false_iff_ne.mpr a0
    obtain ⟨Av, cv, hv⟩ := own_slice HO.out
    rw [bytesOf_length] at hv
    subst hv
    have eXG_0 := (blk_cell XG.out 0).trans rfl
    have eXG_1 := (blk_cell XG.out 1).trans rfl
    have eXG_2 := (blk_cell XG.out 2).trans rfl
    have eXG_3 := (blk_cell XG.out 3).trans rfl
    cases b with
    | false =>
      have TK : Aside0 (takeK false i t T c = ((false, i, t, T), zR 0)) := ⟨(if_neg a0).trans (if_pos (Or.inl rfl))⟩
      clear a0
      go_upto_region 5 with (fail)
      go_quiet (fail)
      have eXS_0 := (blk_cell XS.out 0).trans rfl
      have eXS_1 := (blk_cell XS.out 1).trans rfl
      have eXS_2 := (blk_cell XS.out 2).trans rfl
      have eXS_3 := (blk_cell XS.out 3).trans rfl
      have fXS_0 := blk_frozen XS.out 0
      have fXS_1 := blk_frozen XS.out 1
      have fXS_2 := blk_frozen XS.out 2
      have fXS_3 := blk_frozen XS.out 3
      go_wp2
      refine bodyPost_ret (results_ctt rfl _ _ (w.heap.size + 1) 24 #[.int .i64 0, .int .i64 0, .slice none 0 0, .string ⟨#[]⟩] (0, 0) _ rfl (blk4 (XS.out) _ _ _ _) rfl rfl rfl) rfl ?_
      refine ⟨.slice none 0 0, ?_, ?_, ?_, ?_⟩
      · rw [TK.out]; rfl
      · rw [TK.out]; exact Kd.R_nil _ _ _ _ _
      · rw [TK.out]; exact ⟨HT.out, _, (far4 _ _ _ _ _ _ g (by have := LG.out; omega)).trans XG.out, own_heap HO.out (fun k hk => far4 _ _ _ _ _ _ k (by have := VL.out k hk; omega))⟩
      · exact ⟨KA.out.os, KA.out.tape, KA.out.output, by simp only [World.setCell, Array.size_modify]; exact KA.out.size, fun k hk hne ht => (far4 _ _ _ _ _ _ k (by omega)).trans (KA.out.block k hk hne ht)⟩
    | true =>
      by_cases a1 : c.f0 = i
      · have z1 : (c.f0 != i) = false := bne_eq_false_iff_eq.mpr a1
        by_cases a2 : c.f1 = t
        · have z2 : (c.f1 != t) = false := bne_eq_false_iff_eq.mpr a2
          by_cases a3 : c.f2 = (T.size : Int)
          · have z3 : (c.f2 != (T.size : Int)) = false := bne_eq_false_iff_eq.mpr a3
            have TKq : Aside0 (takeK true i t T c = takeT i t T c) := ⟨(if_neg a0).trans ((if_neg (by rintro (h | h | h); cases h; exact h a1; exact h a2)).trans (if_neg (by rw [a3]; simp)))⟩
            clear a0 a1 a2 a3
            go_upto_region 5 with (fail)
            go_quiet (fail)
            generalize nq = n5
            go_upto_region 7 with (fail)
            go_quiet (fail)
            generalize nq = n7
            go_upto_region 9 with (fail)
            have XCq := XC
            have XSq := XS
            have XG2 := XG
            have HO2 := HO
            have VT2 := VT
            have VL2 := VL
            have HT2 := HT
            have KQ := KA
            have SQ := SZ
            clear XC XS XG HO VT VL HT KA SZ
            have TK : Aside0 (takeK true i t T c = takeT i t T c) := TKq
            clear TKq
            have eCq_4 := (blk_cell XCq.out 4).trans rfl
            have eGq_3 := (blk_cell XG2.out 3).trans rfl
            by_cases hbig : T.size + c.f4.size > 262144
            · have hs9 : (262144 < wrap64 ((T.size : Int) + (c.f4.size : Int))) = True := eq_true (by rw [IntWalk.wrap64_in _ (by have := HT2.out; have := HCD.out; omega)]; omega)
              have TK2 : Aside0 (takeK true i t T c = ((false, 0, 0, ⟨#[]⟩), zR 0)) := ⟨TK.out.trans (if_pos hbig)⟩
              clear hbig TK
              go_quiet (fail)
              generalize nq = nz
              generalize hwz : ((wA.drewN n5).drewN n7).drewN nz = wz
              have XGz : Aside0 (wz.heap[g]? = some (.cells #[.bool true, .int .i64 i, .int .i64 t, .slice Av T.size cv] 113 (0, 0))) := ⟨by rw [← hwz]; exact XG2.out⟩
              have XCz : Aside0 (wz.heap[w.heap.size]? = some (.cells #[.int .i64 c.f0, .int .i64 c.f1, .int .i64 c.f2, .bool c.f3, .string c.f4] 65 (0, 0))) := ⟨by rw [← hwz]; exact XCq.out⟩
              have XSz : Aside0 (wz.heap[w.heap.size + 1]? = some (.cells #[.int .i64 0, .int .i64 0, .slice none 0 0, .string ⟨#[]⟩] 24 (0, 0))) := ⟨by rw [← hwz]; exact XSq.out⟩
              have HOz : Aside0 (wz.ownsRow (g + 1) 5 1 (.slice Av T.size cv) (bytesOf T).length (nums .u8 (bytesOf T))) := ⟨by rw [← hwz]; exact own_heap HO2.out (fun _ _ => rfl)⟩
              have KZ : Aside0 (KG g w wz) := ⟨by rw [← hwz]; exact ((KQ.out.below (pw_below_drewN (Below.refl _ _) n5)).below (pw_below_drewN (Below.refl _ _) n7)).below (pw_below_drewN (Below.refl _ _) nz)⟩
              have SZz : Aside0 (wz.heap.size = w.heap.size + 2) := ⟨by rw [← hwz]; exact SQ.out⟩
              clear hwz XG2 XCq XSq HO2 KQ SQ
              clear eCq_4 eGq_3 XCz HOz hs9
              have eGz_0 := (blk_cell XGz.out 0).trans rfl
              have eGz_1 := (blk_cell XGz.out 1).trans rfl
              have eGz_2 := (blk_cell XGz.out 2).trans rfl
              have eGz_3 := (blk_cell XGz.out 3).trans rfl
              have fXGz_0 := blk_frozen XGz.out 0
              have fXGz_1 := blk_frozen XGz.out 1
              have fXGz_2 := blk_frozen XGz.out 2
              have fXGz_3 := blk_frozen XGz.out 3
              go_upto_region 11 with (fail)
              have XGx := Aside0.mk (blk4 XGz.out (.bool false) (.int .i64 0) (.int .i64 0) (.slice none 0 0))
              have XSx := Aside0.mk ((far4 wz g (.bool false) (.int .i64 0) (.int .i64 0) (.slice none 0 0) (w.heap.size + 1) (by have := LG.out; omega)).trans XSz.out)
              have KX := Aside0.mk ((((KZ.out.set_g 0 (.bool false)).set_g 1 (.int .i64 0)).set_g 2 (.int .i64 0)).set_g 3 (.slice none 0 0))
              clear XGz XSz KZ eGz_0 eGz_1 eGz_2 eGz_3
              generalize (((wz.setCell ⟨g, 0, none⟩ (.bool false)).setCell ⟨g, 1, none⟩ (.int .i64 0)).setCell ⟨g, 2, none⟩ (.int .i64 0)).setCell ⟨g, 3, none⟩ (.slice none 0 0) = wx at XGx XSx KX ⊢
              have eXSx_0 := (blk_cell XSx.out 0).trans rfl
              have eXSx_1 := (blk_cell XSx.out 1).trans rfl
              have eXSx_2 := (blk_cell XSx.out 2).trans rfl
              have eXSx_3 := (blk_cell XSx.out 3).trans rfl
              have fXSx_0 := blk_frozen XSx.out 0
              have fXSx_1 := blk_frozen XSx.out 1
              have fXSx_2 := blk_frozen XSx.out 2
              have fXSx_3 := blk_frozen XSx.out 3
              go_wp2
              refine bodyPost_ret (results_ctt rfl _ _ (w.heap.size + 1) 24 #[.int .i64 0, .int .i64 0, .slice none 0 0, .string ⟨#[]⟩] (0, 0) _ rfl (blk4 (XSx.out) _ _ _ _) rfl rfl rfl) rfl ?_
              refine ⟨.slice none 0 0, ?_, ?_, ?_, ?_⟩
              · rw [TK2.out]; rfl
              · rw [TK2.out]; exact Kd.R_nil _ _ _ _ _
              · rw [TK2.out]; exact ⟨Nat.zero_le _, _, (far4 _ _ _ _ _ _ g (by have := LG.out; omega)).trans XGx.out, own_nil _ _ _ _⟩
              · exact (((KX.out.far (by omega) 0 _).far (by omega) 1 _).far (by omega) 2 _).far (by omega) 3 _
            · have hs9 : (262144 < wrap64 ((T.size : Int) + (c.f4.size : Int))) = False := eq_false (by rw [IntWalk.wrap64_in _ (by have := HT2.out; have := HCD.out; omega)]; omega)
              have TK2 : Aside0 (takeK true i t T c = (if c.f3 = false then ((true, i, t, T ++ c.f4), zR ((T ++ c.f4).size : Int)) else if (decS 7 (T ++ c.f4)).2.2.2.2 ≠ 0 ∨ (decS 7 (T ++ c.f4)).1 ≠ c.f0 ∨ (decS 7 (T ++ c.f4)).2.1 ≠ c.f1 then ((false, 0, 0, ⟨#[]⟩), zR 0) else ((false, 0, 0, ⟨#[]⟩), (((decS 7 (T ++ c.f4)).1, (decS 7 (T ++ c.f4)).2.1, (decS 7 (T ++ c.f4)).2.2.1, (decS 7 (T ++ c.f4)).2.2.2.1), true, 0)))) := ⟨TK.out.trans (if_neg hbig)⟩
              have HB : Aside0 ((T ++ c.f4).size ≤ 262144) := ⟨by rw [size_app]; omega⟩
              clear hbig TK
              go_quiet (fail)
              generalize nq = nz
              generalize hwz : ((wA.drewN n5).drewN n7).drewN nz = wz
              have XGz : Aside0 (wz.heap[g]? = some (.cells #[.bool true, .int .i64 i, .int .i64 t, .slice Av T.size cv] 113 (0, 0))) := ⟨by rw [← hwz]; exact XG2.out⟩
              have XCz : Aside0 (wz.heap[w.heap.size]? = some (.cells #[.int .i64 c.f0, .int .i64 c.f1, .int .i64 c.f2, .bool c.f3, .string c.f4] 65 (0, 0))) := ⟨by rw [← hwz]; exact XCq.out⟩
              have XSz : Aside0 (wz.heap[w.heap.size + 1]? = some (.cells #[.int .i64 0, .int .i64 0, .slice none 0 0, .string ⟨#[]⟩] 24 (0, 0))) := ⟨by rw [← hwz]; exact XSq.out⟩
              have HOz : Aside0 (wz.ownsRow (g + 1) 5 1 (.slice Av T.size cv) (bytesOf T).length (nums .u8 (bytesOf T))) := ⟨by rw [← hwz]; exact own_heap HO2.out (fun _ _ => rfl)⟩
              have KZ : Aside0 (KG g w wz) := ⟨by rw [← hwz]; exact ((KQ.out.below (pw_below_drewN (Below.refl _ _) n5)).below (pw_below_drewN (Below.refl _ _) n7)).below (pw_below_drewN (Below.refl _ _) nz)⟩
              have SZz : Aside0 (wz.heap.size = w.heap.size + 2) := ⟨by rw [← hwz]; exact SQ.out⟩
              clear hwz XG2 XCq XSq HO2 KQ SQ
              clear eCq_4 eGq_3 hs9
              go_upto_region 12 with (fail)
              refine start_ (n := 11) (S := (fun w' => w'.cell? ⟨g, 3, none⟩ = some (.slice Av T.size cv) ∧ w'.cell? ⟨w.heap.size, 4, none⟩ = some (.string c.f4))) (ds := [10]) #[false, false, false, false, false, false, false, false, false, false, false] (by kernel_rfl) rfl rfl ⟨(blk_cell XGz.out 3).trans rfl, (blk_cell XCz.out 4).trans rfl⟩ (fun hHeld => ?_)
              generalize hwy : wz.drew = wy at hHeld ⊢
              have XGy : Aside0 (wy.heap[g]? = some (.cells #[.bool true, .int .i64 i, .int .i64 t, .slice Av T.size cv] 113 (0, 0))) := ⟨by rw [← hwy]; exact XGz.out⟩
              have XCy : Aside0 (wy.heap[w.heap.size]? = some (.cells #[.int .i64 c.f0, .int .i64 c.f1, .int .i64 c.f2, .bool c.f3, .string c.f4] 65 (0, 0))) := ⟨by rw [← hwy]; exact XCz.out⟩
              have XSy : Aside0 (wy.heap[w.heap.size + 1]? = some (.cells #[.int .i64 0, .int .i64 0, .slice none 0 0, .string ⟨#[]⟩] 24 (0, 0))) := ⟨by rw [← hwy]; exact XSz.out⟩
              have HOy : Aside0 (wy.ownsRow (g + 1) 5 1 (.slice Av T.size cv) (bytesOf T).length (nums .u8 (bytesOf T))) := ⟨by rw [← hwy]; exact own_heap HOz.out (fun _ _ => rfl)⟩
              have KY : Aside0 (KG g w wy) := ⟨by rw [← hwy]; exact KZ.out.below (pw_below_drewN (Below.refl _ _) 1)⟩
              have SY : Aside0 (wy.heap.size = w.heap.size + 2) := ⟨by rw [← hwy]; exact SZz.out⟩
              clear hwy XGz XCz XSz HOz KZ SZz
              refine pure_ (i := 0) (N := some 78) (v := ?_) (a' := ?_) #[true, false, false, false, false, false, false, false, false, false, false] rfl rfl (by kernel_rfl) (fun _ _ _ h => h) (Or.inl ⟨by rfl, ?_⟩) ?_ ?_
              rotate_left
              · intro w'
                go_simp
                with_reducible rfl
              rotate_left
              · simp only [Act.put, List.setIfInBounds_toArray, List.set_cons_zero, List.set_cons_succ]
                rfl
              refine pure_ (i := 1) (N := some 79) (v := ?_) (a' := ?_) #[true, true, false, false, false, false, false, false, false, false, false] rfl rfl (by kernel_rfl) (fun _ _ _ h => h) (Or.inl ⟨by rfl, ?_⟩) ?_ ?_
              rotate_left
              · intro w'
                go_simp
                with_reducible rfl
              rotate_left
              · simp only [Act.put, List.setIfInBounds_toArray, List.set_cons_zero, List.set_cons_succ]
                rfl
              refine pure_ (i := 2) (N := some 80) (v := ?_) (a' := ?_) #[true, true, true, false, false, false, false, false, false, false, false] rfl rfl (by kernel_rfl) (fun _ _ _ h => h) (Or.inl ⟨by rfl, ?_⟩) ?_ ?_
              rotate_left
              · intro w'
                go_simp
                with_reducible rfl
              rotate_left
              · simp only [Act.put, List.setIfInBounds_toArray, List.set_cons_zero, List.set_cons_succ]
                rfl
              refine pure_ (i := 3) (N := some 81) (v := ?_) (a' := ?_) #[true, true, true, true, false, false, false, false, false, false, false] rfl rfl (by kernel_rfl) (fun _ _ _ h => h) (Or.inl ⟨by rfl, ?_⟩) ?_ ?_
              rotate_left
              · intro w'
                go_simp
                with_reducible rfl
              rotate_left
              · simp only [Act.put, List.setIfInBounds_toArray, List.set_cons_zero, List.set_cons_succ]
                rfl
              refine take_ (i := 4) (N := some 82) (v := ?_) (a' := ?_) #[true, true, true, true, true, false, false, false, false, false, false] rfl rfl (by kernel_rfl) (fun _ _ _ h => h) (Or.inl ⟨by rfl, ?_⟩) (by first | exact hHeld | assumption) ?_ ?_
              rotate_left
              · rintro w' ⟨s0, s1⟩
                go_simp
                with_reducible rfl
              rotate_left
              · simp only [Act.put, List.setIfInBounds_toArray, List.set_cons_zero, List.set_cons_succ]
                rfl
              refine pure_ (i := 5) (N := some 83) (v := ?_) (a' := ?_) #[true, true, true, true, true, true, false, false, false, false, false] rfl rfl (by kernel_rfl) (fun _ _ _ h => h) (Or.inl ⟨by rfl, ?_⟩) ?_ ?_
              rotate_left
              · intro w'
                go_simp
                with_reducible rfl
              rotate_left
              · simp only [Act.put, List.setIfInBounds_toArray, List.set_cons_zero, List.set_cons_succ]
                rfl
              refine take_ (i := 6) (N := some 84) (v := ?_) (a' := ?_) #[true, true, true, true, true, true, true, false, false, false, false] rfl rfl (by kernel_rfl) (fun _ _ _ h => h) (Or.inl ⟨by rfl, ?_⟩) (by first | exact hHeld | assumption) ?_ ?_
              rotate_left
              · rintro w' ⟨s0, s1⟩
                go_simp
                with_reducible rfl
              rotate_left
              · simp only [Act.put, List.setIfInBounds_toArray, List.set_cons_zero, List.set_cons_succ]
                rfl
              refine one_ (i := 7) (N := some 85) #[true, true, true, true, true, true, true, true, false, false, false] rfl rfl (by kernel_rfl) (by decide) (fun K hK => ?_)
              refine step_append_str (w0 := wy) (g + 1) (by rfl) (.tmp 82) (.tmp 84) 111 9 5 (by rfl) Try.underlying111 Try.underlying9 info5 (.slice Av T.size cv) T c.f4 (by rfl) (by rfl) HOy.out (Below.refl _ _) (by have := SY.out; have := LG.out; omega) (by have := HB.out; rw [size_app] at this; omega) ?_
              intro v1 wp hO1 _ hG1
              have XGw := Aside0.mk ((hG1.block g (by have := SY.out; have := LG.out; omega) (fun e => by have := own_base HOy.out g e.symm; omega)).trans XGy.out)
              have XCw := Aside0.mk ((hG1.block w.heap.size (by have := SY.out; omega) (fun e => by have := VL2.out _ e.symm; omega)).trans XCy.out)
              have XSw := Aside0.mk ((hG1.block (w.heap.size + 1) (by have := SY.out; omega) (fun e => by have := VL2.out _ e.symm; omega)).trans XSy.out)
              have KW := Aside0.mk (KY.out.grown hG1 (fun k hk hlt => VT2.out k hk hlt))
              have SW : Aside0 (w.heap.size + 2 ≤ wp.heap.size) := ⟨Nat.le_trans (Nat.le_of_eq SY.out.symm) hG1.size⟩
              have VW : Aside0 (∀ k, v1.ownBlock = some k → k ≠ w.heap.size ∧ k ≠ w.heap.size + 1) := ⟨fun k hk => own_new hO1 hG1 XCw.out XSw.out k hk⟩
              obtain ⟨A1, c1, hv1⟩ := own_slice hO1
              rw [bytesOf_length] at hv1
              obtain ⟨N, hN⟩ : ∃ N, N = (T ++ c.f4).size := ⟨_, rfl⟩
              rw [← hN] at hv1
              have HN := Aside0.mk hN
              clear hN
              subst hv1
              have HOw := Aside0.mk hO1
              clear hO1 hG1 XGy XCy XSy HOy KY SY
              refine hK.out _ _ ⟨(blk_cell XGw.out 3).trans rfl, (blk_cell XCw.out 4).trans rfl⟩ (fun hHeld => ?_)
              clear hK K
              refine norm_ (a' := ?_) ?_ ?_
              rotate_left
              · show Act.put _ (some 85) _ = _
                simp only [Act.put, List.setIfInBounds_toArray, List.set_cons_zero, List.set_cons_succ]
                rfl
              refine pure_ (i := 8) (N := some 86) (v := ?_) (a' := ?_) #[true, true, true, true, true, true, true, true, true, false, false] rfl rfl (by kernel_rfl) (fun _ _ _ h => h) (Or.inl ⟨by rfl, ?_⟩) ?_ ?_
              rotate_left
              · intro w'
                go_simp
                with_reducible rfl
              rotate_left
              · simp only [Act.put, List.setIfInBounds_toArray, List.set_cons_zero, List.set_cons_succ]
                rfl
              refine pure_ (i := 9) (N := some 87) (v := ?_) (a' := ?_) #[true, true, true, true, true, true, true, true, true, true, false] rfl rfl (by kernel_rfl) (fun _ _ _ h => h) (Or.inl ⟨by rfl, ?_⟩) ?_ ?_
              rotate_left
              · intro w'
                go_simp
                with_reducible rfl
              rotate_left
              · simp only [Act.put, List.setIfInBounds_toArray, List.set_cons_zero, List.set_cons_succ]
                rfl
              refine last_ (i := 10) (N := none) #[true, true, true, true, true, true, true, true, true, true, true] rfl rfl (by kernel_rfl) (by decide) (fun K hK => ?_)
              have hcl : wp.cell? ⟨g, 3, none⟩ = some (.slice Av T.size cv) := (blk_cell XGw.out 3).trans rfl
              have hfr : wp.frozen? ⟨g, 3, none⟩ = false := blk_frozen XGw.out 3
              refine skip_ (w1 := ?_) (by rfl) rfl ?_ ?_
              rotate_left
              · go_simp
                rfl
              refine hK.out _ _ ?_
              clear hK K hcl hfr
              refine done_ (by kernel_rfl) ?_
              have XGx := Aside0.mk (blk_put (cs' := #[.bool true, .int .i64 i, .int .i64 t, .slice A1 N c1]) XGw.out 3 (.slice A1 N c1) rfl)
              have XCx := Aside0.mk ((Below.heap_setCell wp ⟨g, 3, none⟩ (.slice A1 N c1) w.heap.size (by show w.heap.size ≠ g; have := LG.out; omega)).trans XCw.out)
              have XSx := Aside0.mk ((Below.heap_setCell wp ⟨g, 3, none⟩ (.slice A1 N c1) (w.heap.size + 1) (by show w.heap.size + 1 ≠ g; have := LG.out; omega)).trans XSw.out)
              have HOx := Aside0.mk (own_heap (w' := wp.setCell ⟨g, 3, none⟩ (.slice A1 N c1)) HOw.out (fun k hk => Below.heap_setCell wp ⟨g, 3, none⟩ _ k (by show k ≠ g; have := own_base HOw.out k hk; omega)))
              have KX := Aside0.mk (KW.out.set_g 3 (.slice A1 N c1))
              have SX : Aside0 (w.heap.size + 2 ≤ (wp.setCell ⟨g, 3, none⟩ (.slice A1 N c1)).heap.size) := ⟨by simp only [World.setCell, Array.size_modify]; exact SW.out⟩
              clear XGw XCw XSw HOw KW SW hHeld
              generalize wp.setCell ⟨g, 3, none⟩ (.slice A1 N c1) = wx at XGx XCx XSx HOx KX SX ⊢
              have eCx_3 := (blk_cell XCx.out 3).trans rfl
              generalize T ++ c.f4 = U at *
              have HLEN : Aside0 ((bytesOf U).length = U.size) := ⟨bytesOf_length U⟩
              by_cases h3 : c.f3 = false
              · have TK3 : Aside0 (takeK true i t T c = ((true, i, t, U), zR (N : Int))) := ⟨by rw [HN.out]; exact TK2.out.trans (if_pos h3)⟩
                rw [h3] at eCx_3
                clear h3 TK2
                go_upto_region 14 with (fail)
                have eXSx_0 := (blk_cell XSx.out 0).trans rfl
                have eXSx_1 := (blk_cell XSx.out 1).trans rfl
                have eXSx_2 := (blk_cell XSx.out 2).trans rfl
                have eXSx_3 := (blk_cell XSx.out 3).trans rfl
                have fXSx_0 := blk_frozen XSx.out 0
                have fXSx_1 := blk_frozen XSx.out 1
                have fXSx_2 := blk_frozen XSx.out 2
                have fXSx_3 := blk_frozen XSx.out 3
                have eGx_3 := (blk_cell XGx.out 3).trans rfl
                have hSx : ((((wx.setCell ⟨w.heap.size + 1, 0, none⟩ (.int .i64 0)).setCell ⟨w.heap.size + 1, 1, none⟩ (.int .i64 0)).setCell ⟨w.heap.size + 1, 2, none⟩ (.slice none 0 0)).setCell ⟨w.heap.size + 1, 3, none⟩ (.string ⟨#[]⟩)).cell? ⟨g, 3, none⟩ = some (.slice A1 N c1) := (World.cell?_of_block (a := ⟨g, 3, none⟩) (far4 wx (w.heap.size + 1) (.int .i64 0) (.int .i64 0) (.slice none 0 0) (.string ⟨#[]⟩) g (by have := LG.out; omega))).trans ((blk_cell XGx.out 3).trans rfl)
                have hSd : ((((wx.setCell ⟨w.heap.size + 1, 0, none⟩ (.int .i64 0)).setCell ⟨w.heap.size + 1, 1, none⟩ (.int .i64 0)).setCell ⟨w.heap.size + 1, 2, none⟩ (.slice none 0 0)).setCell ⟨w.heap.size + 1, 3, none⟩ (.string ⟨#[]⟩)).drew.cell? ⟨g, 3, none⟩ = some (.slice A1 N c1) := hSx
                go_region_held3 (fun w' => w'.cell? ⟨g, 3, none⟩ = some (.slice A1 N c1)) (first | go_keep | exact hSx | exact hSd | assumption) (fail)
                go_wp2
                refine bodyPost_ret (results_ctt rfl _ _ (w.heap.size + 1) 24 #[.int .i64 0, .int .i64 0, .slice none 0 0, .string ⟨#[]⟩] (0, 0) _ rfl (blk4 (XSx.out) _ _ _ _) rfl rfl rfl) rfl ?_
                refine ⟨.slice none 0 0, ?_, ?_, ?_, ?_⟩
                · rw [TK3.out]; rfl
                · rw [TK3.out]; exact Kd.R_nil _ _ _ _ _
                · rw [TK3.out]; exact ⟨HB.out, _, (far4 _ _ _ _ _ _ g (by have := LG.out; omega)).trans XGx.out, own_heap HOx.out (fun k hk => far4 _ _ _ _ _ _ k (VW.out k hk).2)⟩
                · have kx := (((KX.out.far (q := w.heap.size + 1) (by omega) 0 (.int .i64 0)).far (q := w.heap.size + 1) (by omega) 1 (.int .i64 0)).far (q := w.heap.size + 1) (by omega) 2 (.slice none 0 0)).far (q := w.heap.size + 1) (by omega) 3 (.string ⟨#[]⟩)
                  exact ⟨kx.os, kx.tape, kx.output, kx.size, kx.block⟩
              · have h3t : c.f3 = true := by cases hc : c.f3 with
                  | true => rfl
                  | false => exact absurd hc h3
                have TK3 := Aside0.mk (TK2.out.trans (if_neg h3))
                rw [h3t] at eCx_3
                clear h3 h3t TK2
                have hcv : (convert 111 9 (.slice A1 N c1)).run Try.prog wx = .ok (.string U) wx := by
                  have := own_string (P := Try.prog) (src := 111) (dst := 9) Try.underlying111 (by first | exact Try.underlying5 | rfl) Try.underlying9 HOx.out
                  rw [str_bytes] at this
                  exact this
                have eGx_3 := (blk_cell XGx.out 3).trans rfl
                obtain ⟨k2, hk2⟩ := (dec_ev U (Nat.le_trans HB.out (by decide))).rounds
                obtain ⟨r, hr⟩ : ∃ r, r = decS 7 U := ⟨_, rfl⟩
                rw [← hr] at hk2
                have TK4 := TK3.out
                rw [← hr] at TK4
                have TK5 := Aside0.mk TK4
                obtain ⟨r1, r2, r3, r4, r5⟩ := r
                have HD := Aside0.mk hk2
                clear hk2 hr TK3 TK4
                go_wp2_with (fail)
                refine (shot_Decode.calls k2 U r1 r2 r3 r4 r5 _ HD.out).mono ?_
                rintro e w5 ⟨v5, rfl, hR, hb⟩
                obtain ⟨A5, c5, rfl⟩ := Kd.R_slice hR
                have b6 : Below w5.heap.size w5 (w5.alloc (.cells #[.int .i64 r1, .int .i64 r2, .slice A5 r3.length c5, .string r4] 24 (0, 0))) := below_alloc (Below.refl _ _) _
                have hbb := hb.trans (b6.mono hb.size)
                have XG6 := Aside0.mk ((hbb.block g (by have := SX.out; have := LG.out; omega)).trans XGx.out)
                have XC6 := Aside0.mk ((hbb.block w.heap.size (by have := SX.out; omega)).trans XCx.out)
                have XS6 := Aside0.mk ((hbb.block (w.heap.size + 1) (by have := SX.out; omega)).trans XSx.out)
                have YB6 := Aside0.mk (heap_alloc_new w5 (.cells #[.int .i64 r1, .int .i64 r2, .slice A5 r3.length c5, .string r4] 24 (0, 0)))
                have K6 := Aside0.mk (KX.out.below hbb)
                have R6 := Aside0.mk (Kd.R_bound (Kd.R_below hR b6))
                have N5 : Aside0 (w.heap.size + 2 ≤ w5.heap.size) := ⟨Nat.le_trans SX.out hb.size⟩
                clear hR hb b6 hbb XGx XCx XSx HOx KX VW hcv eGx_3 eCx_3
                go_upto_region 16 with (fail)
                generalize w5.alloc (.cells #[.int .i64 r1, .int .i64 r2, .slice A5 r3.length c5, .string r4] 24 (0, 0)) = w6 at XG6 XC6 XS6 YB6 K6 R6 ⊢
                have eXG6_0 := (blk_cell XG6.out 0).trans rfl
                have eXG6_1 := (blk_cell XG6.out 1).trans rfl
                have eXG6_2 := (blk_cell XG6.out 2).trans rfl
                have eXG6_3 := (blk_cell XG6.out 3).trans rfl
                have fXG6_0 := blk_frozen XG6.out 0
                have fXG6_1 := blk_frozen XG6.out 1
                have fXG6_2 := blk_frozen XG6.out 2
                have fXG6_3 := blk_frozen XG6.out 3
                go_upto_region 17 with (fail)
                have XGf := Aside0.mk (blk4 XG6.out (.bool false) (.int .i64 0) (.int .i64 0) (.slice none 0 0))
                have XCf := Aside0.mk ((far4 w6 g (.bool false) (.int .i64 0) (.int .i64 0) (.slice none 0 0) w.heap.size (by have := LG.out; omega)).trans XC6.out)
                have XSf := Aside0.mk ((far4 w6 g (.bool false) (.int .i64 0) (.int .i64 0) (.slice none 0 0) (w.heap.size + 1) (by have := LG.out; omega)).trans XS6.out)
                have YBf := Aside0.mk ((far4 w6 g (.bool false) (.int .i64 0) (.int .i64 0) (.slice none 0 0) w5.heap.size (by have := LG.out; have := N5.out; omega)).trans YB6.out)
                have KF := Aside0.mk ((((K6.out.set_g 0 (.bool false)).set_g 1 (.int .i64 0)).set_g 2 (.int .i64 0)).set_g 3 (.slice none 0 0))
                have RF := Aside0.mk (Kd.R_bound (Kd.R_step R6.out (fun k hk _ => far4 w6 g (.bool false) (.int .i64 0) (.int .i64 0) (.slice none 0 0) k (by have := hk.2.1; have := SX.out; have := LG.out; omega))))
                clear XG6 XC6 XS6 YB6 K6 R6 eXG6_0 fXG6_0 eXG6_1 fXG6_1 eXG6_2 fXG6_2 eXG6_3 fXG6_3
                generalize (((w6.setCell ⟨g, 0, none⟩ (.bool false)).setCell ⟨g, 1, none⟩ (.int .i64 0)).setCell ⟨g, 2, none⟩ (.int .i64 0)).setCell ⟨g, 3, none⟩ (.slice none 0 0) = wf at XGf XCf XSf YBf KF RF ⊢
                have eXCf_0 := (blk_cell XCf.out 0).trans rfl
                have eXCf_1 := (blk_cell XCf.out 1).trans rfl
                have eYBf_0 := (blk_cell YBf.out 0).trans rfl
                have eYBf_1 := (blk_cell YBf.out 1).trans rfl
                have eYBf_2 := (blk_cell YBf.out 2).trans rfl
                have eYBf_3 := (blk_cell YBf.out 3).trans rfl
                have eXSf_0 := (blk_cell XSf.out 0).trans rfl
                have eXSf_1 := (blk_cell XSf.out 1).trans rfl
                have eXSf_2 := (blk_cell XSf.out 2).trans rfl
                have eXSf_3 := (blk_cell XSf.out 3).trans rfl
                have fXSf_0 := blk_frozen XSf.out 0
                have fXSf_1 := blk_frozen XSf.out 1
                have fXSf_2 := blk_frozen XSf.out 2
                have fXSf_3 := blk_frozen XSf.out 3
                have hfar : w.heap.size + 1 ≠ w5.heap.size := by have := N5.out; omega
                have hfar2 : (w5.heap.size = w.heap.size + 1) = False := eq_false (by have := N5.out; omega)
                by_cases hok : r5 ≠ 0 ∨ r1 ≠ c.f0 ∨ r2 ≠ c.f1
                · have TK6 : Aside0 (takeK true i t T c = ((false, 0, 0, ⟨#[]⟩), zR 0)) := ⟨TK5.out.trans (if_pos hok)⟩
                  have HOK := Aside0.mk hok
                  clear hok TK5
                  have FIN : Aside0 (∀ w', w' = ((((wf.setCell ⟨w.heap.size + 1, 0, none⟩ (.int .i64 0)).setCell ⟨w.heap.size + 1, 1, none⟩ (.int .i64 0)).setCell ⟨w.heap.size + 1, 2, none⟩ (.slice none 0 0)).setCell ⟨w.heap.size + 1, 3, none⟩ (.string ⟨#[]⟩)) → Kd.R (Kd.int .i64) 3 w' w.heap.size (fun k => w.heap.size ≤ k) (.slice none 0 0) (takeK true i t T c).2.1.2.2.1 ∧ IsG w' g (takeK true i t T c).1.1 (takeK true i t T c).1.2.1 (takeK true i t T c).1.2.2.1 (takeK true i t T c).1.2.2.2 ∧ KG g w w') := ⟨fun w' hw => by
                    subst hw
                    rw [TK6.out]
                    exact ⟨Kd.R_nil _ _ _ _ _, ⟨Nat.zero_le _, _, (far4 _ _ _ _ _ _ g (by have := LG.out; omega)).trans XGf.out, own_nil _ _ _ _⟩, (((KF.out.far (by omega) 0 _).far (by omega) 1 _).far (by omega) 2 _).far (by omega) 3 _⟩⟩
                  have d1 : r5 = 0 ∨ (r5 != 0) = true := (Decidable.em (r5 = 0)).imp id (fun h => bne_iff_ne.mpr h)
                  have d2 : (r1 != c.f0) = false ∨ (r1 != c.f0) = true := by cases (r1 != c.f0) <;> simp
                  rcases d1 with d1 | d1
                  · have d1' : (r5 != 0) = false := bne_eq_false_iff_eq.mpr d1
                    rcases d2 with d2 | d2
                    · have d3 : (r2 != c.f1) = true := bne_iff_ne.mpr (HOK.out.elim (fun h => absurd d1 h) (fun h => h.elim (fun h => absurd (bne_eq_false_iff_eq.1 d2) h) id))
                      clear d1
                      go_wp2
                      refine bodyPost_ret (results_ctt rfl _ _ (w.heap.size + 1) 24 #[.int .i64 0, .int .i64 0, .slice none 0 0, .string ⟨#[]⟩] (0, 0) _ rfl (blk4 (XSf.out) _ _ _ _) rfl rfl rfl) rfl ?_
                      exact ⟨.slice none 0 0, by rw [TK6.out]; rfl, FIN.out _ rfl⟩
                    · clear d1
                      go_wp2
                      refine bodyPost_ret (results_ctt rfl _ _ (w.heap.size + 1) 24 #[.int .i64 0, .int .i64 0, .slice none 0 0, .string ⟨#[]⟩] (0, 0) _ rfl (blk4 (XSf.out) _ _ _ _) rfl rfl rfl) rfl ?_
                      exact ⟨.slice none 0 0, by rw [TK6.out]; rfl, FIN.out _ rfl⟩
                  · clear d2
                    go_wp2
                    refine bodyPost_ret (results_ctt rfl _ _ (w.heap.size + 1) 24 #[.int .i64 0, .int .i64 0, .slice none 0 0, .string ⟨#[]⟩] (0, 0) _ rfl (blk4 (XSf.out) _ _ _ _) rfl rfl rfl) rfl ?_
                    exact ⟨.slice none 0 0, by rw [TK6.out]; rfl, FIN.out _ rfl⟩
                · have TK6 : Aside0 (takeK true i t T c = ((false, 0, 0, ⟨#[]⟩), ((r1, r2, r3, r4), true, 0))) := ⟨TK5.out.trans (if_neg hok)⟩
                  have d1 : (r5 != 0) = false := bne_eq_false_iff_eq.mpr (Decidable.byContradiction (fun h => hok (Or.inl h)))
                  have d2 : (r1 != c.f0) = false := bne_eq_false_iff_eq.mpr (Decidable.byContradiction (fun h => hok (Or.inr (Or.inl h))))
                  have d3 : (r2 != c.f1) = false := bne_eq_false_iff_eq.mpr (Decidable.byContradiction (fun h => hok (Or.inr (Or.inr h))))
                  clear hok TK5
                  go_wp2
                  refine bodyPost_ret (results_ctt rfl _ _ (w.heap.size + 1) 24 #[.int .i64 r1, .int .i64 r2, .slice A5 r3.length c5, .string r4] (0, 0) _ rfl (blk4 (XSf.out) _ _ _ _) rfl rfl rfl) rfl ?_
                  refine ⟨.slice A5 r3.length c5, ?_, ?_, ?_, ?_⟩
                  · rw [TK6.out]; rfl
                  · rw [TK6.out]; exact Kd.R_mono (Kd.R_lower (Kd.R_step RF.out (fun k hk _ => far4 _ _ _ _ _ _ k (by have := hk.2.1; have := SX.out; omega))) (by have := SX.out; omega)) (fun k hk => by have := hk.2.1; have := SX.out; omega)
                  · rw [TK6.out]; exact ⟨Nat.zero_le _, _, (far4 _ _ _ _ _ _ g (by have := LG.out; omega)).trans XGf.out, own_nil _ _ _ _⟩
                  · exact (((KF.out.far (by omega) 0 _).far (by omega) 1 _).far (by omega) 2 _).far (by omega) 3 _
          · have z3 : (c.f2 != (T.size : Int)) = true := bne_iff_ne.mpr a3
            have TK : Aside0 (takeK true i t T c = ((true, i, t, T), zR (T.size : Int))) := ⟨(if_neg a0).trans ((if_neg (by rintro (h | h | h); cases h; exact h a1; exact h a2)).trans (if_pos a3))⟩
            clear a0 a1 a2 a3
            go_upto_region 5 with (fail)
            go_quiet (fail)
            go_upto_region 7 with (fail)
            go_quiet (fail)
            go_upto_region 8 with (fail)
            have eXS_0 := (blk_cell XS.out 0).trans rfl
            have eXS_1 := (blk_cell XS.out 1).trans rfl
            have eXS_2 := (blk_cell XS.out 2).trans rfl
            have eXS_3 := (blk_cell XS.out 3).trans rfl
            have fXS_0 := blk_frozen XS.out 0
            have fXS_1 := blk_frozen XS.out 1
            have fXS_2 := blk_frozen XS.out 2
            have fXS_3 := blk_frozen XS.out 3
            go_region_held3 (fun w' => w'.cell? ⟨g, 3, none⟩ = some (.slice Av T.size cv)) (first | go_keep | exact (World.cell?_of_block (far4 _ _ _ _ _ _ g (by have := LG.out; omega))).trans ((blk_cell XG.out 3).trans rfl)) (fail)
            go_wp2
            refine bodyPost_ret (results_ctt rfl _ _ (w.heap.size + 1) 24 #[.int .i64 0, .int .i64 0, .slice none 0 0, .string ⟨#[]⟩] (0, 0) _ rfl (blk4 (XS.out) _ _ _ _) rfl rfl rfl) rfl ?_
            refine ⟨.slice none 0 0, ?_, ?_, ?_, ?_⟩
            · rw [TK.out]; rfl
            · rw [TK.out]; exact Kd.R_nil _ _ _ _ _
            · rw [TK.out]; exact ⟨HT.out, _, (far4 _ _ _ _ _ _ g (by have := LG.out; omega)).trans XG.out, own_heap HO.out (fun k hk => far4 _ _ _ _ _ _ k (by have := VL.out k hk; omega))⟩
            · exact ⟨KA.out.os, KA.out.tape, KA.out.output, by simp only [World.setCell, Array.size_modify]; exact KA.out.size, fun k hk hne ht => (far4 _ _ _ _ _ _ k (by omega)).trans (KA.out.block k hk hne ht)⟩
        · have z2 : (c.f1 != t) = true := bne_iff_ne.mpr a2
          have TK : Aside0 (takeK true i t T c = ((true, i, t, T), zR 0)) := ⟨(if_neg a0).trans (if_pos (Or.inr (Or.inr a2)))⟩
          clear a1 a2
          clear a0
          go_upto_region 5 with (fail)
          go_quiet (fail)
          have eXS_0 := (blk_cell XS.out 0).trans rfl
          have eXS_1 := (blk_cell XS.out 1).trans rfl
          have eXS_2 := (blk_cell XS.out 2).trans rfl
          have eXS_3 := (blk_cell XS.out 3).trans rfl
          have fXS_0 := blk_frozen XS.out 0
          have fXS_1 := blk_frozen XS.out 1
          have fXS_2 := blk_frozen XS.out 2
          have fXS_3 := blk_frozen XS.out 3
          go_wp2
          refine bodyPost_ret (results_ctt rfl _ _ (w.heap.size + 1) 24 #[.int .i64 0, .int .i64 0, .slice none 0 0, .string ⟨#[]⟩] (0, 0) _ rfl (blk4 (XS.out) _ _ _ _) rfl rfl rfl) rfl ?_
          refine ⟨.slice none 0 0, ?_, ?_, ?_, ?_⟩
          · rw [TK.out]; rfl
          · rw [TK.out]; exact Kd.R_nil _ _ _ _ _
          · rw [TK.out]; exact ⟨HT.out, _, (far4 _ _ _ _ _ _ g (by have := LG.out; omega)).trans XG.out, own_heap HO.out (fun k hk => far4 _ _ _ _ _ _ k (by have := VL.out k hk; omega))⟩
          · exact ⟨KA.out.os, KA.out.tape, KA.out.output, by simp only [World.setCell, Array.size_modify]; exact KA.out.size, fun k hk hne ht => (far4 _ _ _ _ _ _ k (by omega)).trans (KA.out.block k hk hne ht)⟩
      · have z1 : (c.f0 != i) = true := bne_iff_ne.mpr a1
        have TK : Aside0 (takeK true i t T c = ((true, i, t, T), zR 0)) := ⟨(if_neg a0).trans (if_pos (Or.inr (Or.inl a1)))⟩
        clear a1
        clear a0
        go_upto_region 5 with (fail)
        go_quiet (fail)
        have eXS_0 := (blk_cell XS.out 0).trans rfl
        have eXS_1 := (blk_cell XS.out 1).trans rfl
        have eXS_2 := (blk_cell XS.out 2).trans rfl
        have eXS_3 := (blk_cell XS.out 3).trans rfl
        have fXS_0 := blk_frozen XS.out 0
        have fXS_1 := blk_frozen XS.out 1
        have fXS_2 := blk_frozen XS.out 2
        have fXS_3 := blk_frozen XS.out 3
        go_wp2
        refine bodyPost_ret (results_ctt rfl _ _ (w.heap.size + 1) 24 #[.int .i64 0, .int .i64 0, .slice none 0 0, .string ⟨#[]⟩] (0, 0) _ rfl (blk4 (XS.out) _ _ _ _) rfl rfl rfl) rfl ?_
        refine ⟨.slice none 0 0, ?_, ?_, ?_, ?_⟩
        · rw [TK.out]; rfl
        · rw [TK.out]; exact Kd.R_nil _ _ _ _ _
        · rw [TK.out]; exact ⟨HT.out, _, (far4 _ _ _ _ _ _ g (by have := LG.out; omega)).trans XG.out, own_heap HO.out (fun k hk => far4 _ _ _ _ _ _ k (by have := VL.out k hk; omega))⟩
        · exact ⟨KA.out.os, KA.out.tape, KA.out.output, by simp only [World.setCell, Array.size_modify]; exact KA.out.size, fun k hk hne ht => (far4 _ _ _ _ _ _ k (by omega)).trans (KA.out.block k hk hne ht)⟩
end Go.Proofs.Ythjfofgcikfepaa.Q
