/- stowagelaw08.one, arm by arm, over any blocks; what a net keeps in so many acts; what was sent, in memory: under no further conditions. -/
import Derived.Test.YtodkackgdchocaaTr
import Derived.Test.YtodkackgdchocaaQx2
import Derived.Test.YtodkackgdchocaaQx3d
import Derived.Test.YtodkackgdchocaaQx4
import Derived.Test.YtodkackgdchocaaQx5
import Derived.Test.YtodkackgdchocaaQx6
namespace Go.Proofs.Ytodkackgdchocaa.Q
open Go.RowKit Go.Proofs.YtodkackgdchocaaW.PrintWords Go.Proofs.YtodkackgdchocaaW.PrintLast Go.Proofs.YtodkackgdchocaaW.PrintMore
set_option linter.unusedVariables false
set_option linter.unusedSimpArgs false
set_option maxHeartbeats 8000000
set_option maxRecDepth 10000
/-- The rows of the reference's net. -/
def MR (w : World) (base : Nat) (u0 u1 : Value) (l0 : List S60) (l1 : List S71) : Prop := Kd.R k60 60 w base (fun _ => True) u0 l0 ∧ Kd.R k71 71 w base (fun _ => True) u1 l1
/-- Blocks that are no rows of the reference's stay. -/
def KeepM (w w' : World) : Prop := w.heap.size ≤ w'.heap.size ∧ ∀ k, k < w.heap.size → (∀ cs, w.heap[k]? ≠ some (.cells cs 60 (0, 0)) ∧ w.heap[k]? ≠ some (.cells cs 71 (0, 0))) → w'.heap[k]? = w.heap[k]?
theorem k60E : ∀ q, q ∈ 60 :: k60.E → q = 60 := by
 intro q hq
 simpa [k60, Kd.iso, Kd.pair, Kd.int, Kd.string, Kd.scalar] using hq
theorem k71E : ∀ q, q ∈ 71 :: k71.E → q = 71 := by
 intro q hq
 simpa [k71, Kd.iso, Kd.pair, Kd.int, Kd.string, Kd.scalar] using hq
theorem KeepM.below {w w' : World} (hb : Below w.heap.size w w') : KeepM w w' := ⟨hb.size, fun k hk _ => hb.block k hk⟩
/-- A block that the reference's calls leave. -/
def NotM (o : Obj) : Prop := ∀ cs, o ≠ .cells cs 60 (0, 0) ∧ o ≠ .cells cs 71 (0, 0)
theorem KeepM.at_ {w w' : World} (h : KeepM w w') {k : Nat} {o : Obj} (hk : w.heap[k]? = some o) (ho : NotM o) : w'.heap[k]? = some o :=
 (h.2 k (blk_lt hk) (fun cs => by rw [hk]; exact ⟨fun e => (ho cs).1 (by injection e), fun e => (ho cs).2 (by injection e)⟩)).trans hk
theorem NotM.of {cs : Array Value} {t : TypeId} (h1 : t ≠ 60) (h2 : t ≠ 71) : NotM (.cells cs t (0, 0)) := fun cs' => ⟨fun e => h1 (by injection e), fun e => h2 (by injection e)⟩
theorem Tr.keptM {w0 w w' : World} {g : Nat} {n : NetS} {bs : List (Nat × Obj)} (h : Tr w0 w g n bs) (hk : KeepM w w') (hB : Below w0.heap.size w0 w') (hbs : ∀ q ∈ bs, NotM q.2) : Tr w0 w' g n bs := by
 obtain ⟨h0, v, h1, h2⟩ := h
 refine ⟨hB, v, ⟨h1.ge, hk.at_ h1.blk (NotM.of (by decide) (by decide)), own_move h1.row (fun k hq => ?_), h1.cl, h1.le, h1.ok⟩, fun q hq => ⟨hk.at_ (h2 q hq).blk (hbs q hq), (h2 q hq).ne, (h2 q hq).own⟩⟩
 obtain ⟨cs, hc⟩ := own_typed h1.row k hq
 rw [hk.at_ hc (NotM.of (by decide) (by decide)), hc]
theorem MR.keepT {w w' : World} {base : Nat} {u0 u1 : Value} {l0 : List S60} {l1 : List S71} (h : MR w base u0 u1 l0 l1) (hk : KeepT w w') : MR w' base u0 u1 l0 l1 :=
 ⟨hk.row h.1 (fun q hq => by rw [k60E q hq]; decide), hk.row h.2 (fun q hq => by rw [k71E q hq]; decide)⟩
theorem MR.below {w w' : World} {base : Nat} {u0 u1 : Value} {l0 : List S60} {l1 : List S71} (h : MR w base u0 u1 l0 l1) (hb : Below w.heap.size w w') : MR w' base u0 u1 l0 l1 := ⟨Kd.R_below h.1 hb, Kd.R_below h.2 hb⟩
/-- What the reference's rows are, by types. -/
def PM (w : World) (k : Nat) : Prop := ∃ cs, w.heap[k]? = some (.cells cs 60 (0, 0)) ∨ w.heap[k]? = some (.cells cs 71 (0, 0))
theorem MR.bound {w : World} {base : Nat} {u0 u1 : Value} {l0 : List S60} {l1 : List S71} (h : MR w base u0 u1 l0 l1) : Kd.R k60 60 w base (PM w) u0 l0 ∧ Kd.R k71 71 w base (PM w) u1 l1 := by
 refine ⟨Kd.R_mono (Kd.R_bound h.1) (fun k hk => ?_), Kd.R_mono (Kd.R_bound h.2) (fun k hk => ?_)⟩
 ·obtain ⟨_, _, _, q, hq, cs, hc⟩ := hk
  rw [k60E q hq] at hc
  exact ⟨cs, .inl hc⟩
 ·obtain ⟨_, _, _, q, hq, cs, hc⟩ := hk
  rw [k71E q hq] at hc
  exact ⟨cs, .inr hc⟩
theorem KeepM.of {w w' : World} {P : Nat → Prop} (h : Kept w w' P) (hP : ∀ k, P k → PM w k) : KeepM w w' :=
 ⟨h.1, fun k hk ht => h.2 k hk (fun hp => by
  obtain ⟨cs, hc | hc⟩ := hP k hp
  ·exact (ht cs).1 hc
  ·exact (ht cs).2 hc)⟩
section
variable {w0 w : World} {u0 u1 : Value} {l0 : List S60} {l1 : List S71} {a2 a3 a4 : Int}
theorem R_Send {k : Nat} {x y : Int} {s : ByteArray} {r1 : List S60} {r2 : List S71} {r3 r4 r5 : Int} {r6 : Bool} (hB : Below w0.heap.size w0 w) (hm : MR w w0.heap.size u0 u1 l0 l1) (h : stowageref08_Wires_Send.f k l0 l1 a2 a3 a4 x y s = some (r1, r2, r3, r4, r5, r6)) :
  Calls Try.prog 28 #[.agg #[u0, u1, .int .i64 a2, .int .i64 a3, .int .i64 a4], .agg #[.int .i64 x, .int .i64 y, .string s]] w fun e w' => ∃ v0 v1, e = .returned (.tuple #[.agg #[v0, v1, .int .i64 r3, .int .i64 r4, .int .i64 r5], .bool r6]) ∧ MR w' w0.heap.size v0 v1 r1 r2 ∧ KeepM w w' ∧ Below w0.heap.size w0 w' := by
 refine (stowageref08_Wires_Send.calls k (PM w) u0 l0 (PM w) u1 l1 a2 a3 a4 x y s r1 r2 r3 r4 r5 r6 w0 w hB hm.bound.1 hm.bound.2 h).mono ?_
 rintro e w' ⟨v0, v1, rfl, h0, h1, hb, hk⟩
 exact ⟨v0, v1, rfl, ⟨Kd.R_mono h0 (fun _ _ => trivial), Kd.R_mono h1 (fun _ _ => trivial)⟩, KeepM.of hk (fun k hk => hk.elim id id), hb⟩
theorem R_Drop {x : Int} {r1 : List S60} {r2 : List S71} {r3 r4 r5 : Int} {r6 : Bool} (hB : Below w0.heap.size w0 w) (hm : MR w w0.heap.size u0 u1 l0 l1) (h : stowageref08_Wires_Drop.f l0 l1 a2 a3 a4 x = some (r1, r2, r3, r4, r5, r6)) :
  Calls Try.prog 30 #[.agg #[u0, u1, .int .i64 a2, .int .i64 a3, .int .i64 a4], .int .i64 x] w fun e w' => ∃ v0 v1, e = .returned (.tuple #[.agg #[v0, v1, .int .i64 r3, .int .i64 r4, .int .i64 r5], .bool r6]) ∧ MR w' w0.heap.size v0 v1 r1 r2 ∧ KeepM w w' ∧ Below w0.heap.size w0 w' := by
 refine (stowageref08_Wires_Drop.calls (PM w) u0 l0 (PM w) u1 l1 a2 a3 a4 x r1 r2 r3 r4 r5 r6 w0 w hB hm.bound.1 hm.bound.2 h).mono ?_
 rintro e w' ⟨v0, v1, rfl, h0, h1, hb, hk⟩
 exact ⟨v0, v1, rfl, ⟨Kd.R_mono h0 (fun _ _ => trivial), Kd.R_mono h1 (fun _ _ => trivial)⟩, KeepM.of hk (fun k hk => hk.elim id id), hb⟩
theorem R_Double {x : Int} {r1 : List S60} {r2 : List S71} {r3 r4 r5 : Int} {r6 : Bool} (hB : Below w0.heap.size w0 w) (hm : MR w w0.heap.size u0 u1 l0 l1) (h : stowageref08_Wires_Double.f l0 l1 a2 a3 a4 x = some (r1, r2, r3, r4, r5, r6)) :
  Calls Try.prog 31 #[.agg #[u0, u1, .int .i64 a2, .int .i64 a3, .int .i64 a4], .int .i64 x] w fun e w' => ∃ v0 v1, e = .returned (.tuple #[.agg #[v0, v1, .int .i64 r3, .int .i64 r4, .int .i64 r5], .bool r6]) ∧ MR w' w0.heap.size v0 v1 r1 r2 ∧ KeepM w w' ∧ Below w0.heap.size w0 w' := by
 refine (stowageref08_Wires_Double.calls (PM w) u0 l0 (PM w) u1 l1 a2 a3 a4 x r1 r2 r3 r4 r5 r6 w0 w hB hm.bound.1 hm.bound.2 h).mono ?_
 rintro e w' ⟨v0, v1, rfl, h0, h1, hb, hk⟩
 exact ⟨v0, v1, rfl, ⟨Kd.R_mono h0 (fun _ _ => trivial), Kd.R_mono h1 (fun _ _ => trivial)⟩, KeepM.of hk (fun k hk => hk.elim id id), hb⟩
theorem R_Cut {k : Nat} {x y : Int} {r1 : List S60} {r2 : List S71} {r3 r4 r5 r6 : Int} (hB : Below w0.heap.size w0 w) (hm : MR w w0.heap.size u0 u1 l0 l1) (h : stowageref08_Wires_Cut.f k l0 l1 a2 a3 a4 x y = some (r1, r2, r3, r4, r5, r6)) :
  Calls Try.prog 32 #[.agg #[u0, u1, .int .i64 a2, .int .i64 a3, .int .i64 a4], .int .i64 x, .int .i64 y] w fun e w' => ∃ v0 v1, e = .returned (.tuple #[.agg #[v0, v1, .int .i64 r3, .int .i64 r4, .int .i64 r5], .int .i64 r6]) ∧ MR w' w0.heap.size v0 v1 r1 r2 ∧ KeepM w w' ∧ Below w0.heap.size w0 w' := by
 refine (stowageref08_Wires_Cut.calls k (PM w) u0 l0 (PM w) u1 l1 a2 a3 a4 x y r1 r2 r3 r4 r5 r6 w0 w hB hm.bound.1 hm.bound.2 h).mono ?_
 rintro e w' ⟨v0, v1, rfl, h0, h1, hb, hk⟩
 exact ⟨v0, v1, rfl, ⟨Kd.R_mono h0 (fun _ _ => trivial), Kd.R_mono h1 (fun _ _ => trivial)⟩, KeepM.of hk (fun k hk => hk.elim id id), hb⟩
theorem MR.slices (hm : MR w w0.heap.size u0 u1 l0 l1) : ∃ A0 c0 A1 c1, u0 = .slice A0 l0.length c0 ∧ u1 = .slice A1 l1.length c1 := by
 obtain ⟨A0, c0, h0⟩ := Kd.R_slice hm.1
 obtain ⟨A1, c1, h1⟩ := Kd.R_slice hm.2
 exact ⟨A0, c0, A1, c1, h0, h1⟩
theorem R_At {x : Int} {r1 r2 : Int} {r3 : ByteArray} {r4 : Bool} (hm : MR w w0.heap.size u0 u1 l0 l1) (h : stowageref08_Wires_At.f l0 l1 a2 a3 a4 x = some (r1, r2, r3, r4)) :
  Calls Try.prog 34 #[.agg #[u0, u1, .int .i64 a2, .int .i64 a3, .int .i64 a4], .int .i64 x] w fun e w' => e = .returned (.tuple #[.agg #[.int .i64 r1, .int .i64 r2, .string r3], .bool r4]) ∧ Below w.heap.size w w' := by
 obtain ⟨A0, c0, rfl, hc0, hC0⟩ := Kd.R_reads hm.1
 obtain ⟨A1, c1, rfl, hc1, hC1⟩ := Kd.R_reads hm.2
 exact stowageref08_Wires_At.calls A0 c0 l0 A1 c1 l1 a2 a3 a4 x r1 r2 r3 r4 w hC0 hc0 hC1 hc1 h
theorem R_Clear {k : Nat} {x : Int} {r1 : List S60} {r2 : List S71} {r3 r4 r5 r6 : Int} (hB : Below w0.heap.size w0 w) (hm : MR w w0.heap.size u0 u1 l0 l1) (h : stowageref08_Wires_Clear.f k l0 l1 a2 a3 a4 x = some (r1, r2, r3, r4, r5, r6)) :
  Calls Try.prog 33 #[.agg #[u0, u1, .int .i64 a2, .int .i64 a3, .int .i64 a4], .int .i64 x] w fun e w' => ∃ v0 v1, e = .returned (.tuple #[.agg #[v0, v1, .int .i64 r3, .int .i64 r4, .int .i64 r5], .int .i64 r6]) ∧ MR w' w0.heap.size v0 v1 r1 r2 ∧ KeepM w w' ∧ Below w0.heap.size w0 w' := by
 have h60 : Kd.R k60 60 w w0.heap.size (fun k => ∃ cs, w.heap[k]? = some (.cells cs 60 (0, 0))) u0 l0 := Kd.R_mono (Kd.R_bound hm.1) (fun k hk => by
  obtain ⟨_, _, _, q, hq, cs, hc⟩ := hk
  rw [k60E q hq] at hc
  exact ⟨cs, hc⟩)
 have h71 : Kd.R k71 71 w w0.heap.size (fun k => ∃ cs, w.heap[k]? = some (.cells cs 71 (0, 0))) u1 l1 := Kd.R_mono (Kd.R_bound hm.2) (fun k hk => by
  obtain ⟨_, _, _, q, hq, cs, hc⟩ := hk
  rw [k71E q hq] at hc
  exact ⟨cs, hc⟩)
 obtain ⟨A0, c0, rfl, hc0, hC0⟩ := Kd.R_reads h60
 have hr : ∀ W_, Kept w W_ (fun k => ∃ cs, w.heap[k]? = some (.cells cs 71 (0, 0))) → Kd.C k60 W_ A0 l0.length l0 := by
  intro W_ hk
  have h6 : Kd.R k60 60 W_ w0.heap.size (fun k => ∃ cs, w.heap[k]? = some (.cells cs 60 (0, 0))) (.slice A0 l0.length c0) l0 := Kd.R_step h60 (fun k hk1 hl => hk.2 k hl (fun hp => by
   obtain ⟨cs, hc⟩ := hk1
   obtain ⟨cs', hc'⟩ := hp
   rw [hc] at hc'
   injection hc' with hc'
   injection hc' with _ e
   revert e; decide))
  obtain ⟨A', c', e, _, hC⟩ := Kd.R_reads h6
  injection e with e1 _ e3
  rw [e1]
  exact hC
 refine (stowageref08_Wires_Clear.calls k A0 c0 l0 _ u1 l1 a2 a3 a4 x r1 r2 r3 r4 r5 r6 w0 w hB hr hc0 h71 h).mono ?_
 rintro e w' ⟨v0, v1, rfl, h0, h1, hb, hk⟩
 exact ⟨v0, v1, rfl, ⟨Kd.R_mono h0 (fun _ _ => trivial), Kd.R_mono h1 (fun _ _ => trivial)⟩, KeepM.of hk (fun k hk => by obtain ⟨cs, hc⟩ := hk; exact ⟨cs, .inr hc⟩), hb⟩
end
theorem Tr.box {w0 w w1 : World} {g : Nat} {n : NetS} {bs : List (Nat × Obj)} (h : Tr w0 w g n bs) (hb : Below w.heap.size w w1) {k : Nat} {o : Obj} (hk : k = w.heap.size) (ho : w1.heap[k]? = some o) : Tr w0 w1 g n ((k, o) :: bs) := by
 subst hk
 obtain ⟨h0, v, h1, h2⟩ := h
 refine ⟨below_step h0 hb, v, h1.below hb, fun q hq => ?_⟩
 rcases List.mem_cons.1 hq with rfl | hq
 ·exact ⟨ho, by have := h1.lt; show w.heap.size ≠ g; omega, fun hh => by have := own_lt h1.row _ hh.symm; omega⟩
 ·exact (h2 q hq).below hb
/-- Blocks that are neither a net's nor the reference's rows stay. -/
def KeepO (w w' : World) : Prop := w.heap.size ≤ w'.heap.size ∧ ∀ k, k < w.heap.size → (∀ cs, w.heap[k]? ≠ some (.cells cs 56 (0, 0)) ∧ w.heap[k]? ≠ some (.cells cs 27 (0, 0)) ∧ w.heap[k]? ≠ some (.cells cs 60 (0, 0)) ∧ w.heap[k]? ≠ some (.cells cs 71 (0, 0))) → w'.heap[k]? = w.heap[k]?
theorem KeepO.refl (w : World) : KeepO w w := ⟨Nat.le_refl _, fun _ _ _ => rfl⟩
theorem KeepO.trans {w w1 w2 : World} (h : KeepO w w1) (k : KeepO w1 w2) : KeepO w w2 :=
 ⟨Nat.le_trans h.1 k.1, fun i hi ht => by
  have e := h.2 i hi ht
  exact (k.2 i (Nat.lt_of_lt_of_le hi h.1) (fun cs => by rw [e]; exact ht cs)).trans e⟩
theorem KeepO.below {w w1 w2 : World} (h : KeepO w w1) (hb : Below w1.heap.size w1 w2) : KeepO w w2 := h.trans ⟨hb.size, fun k hk _ => hb.block k hk⟩
theorem KeepO.ofM {w w1 w2 : World} (h : KeepO w w1) (k : KeepM w1 w2) : KeepO w w2 := h.trans ⟨k.1, fun i hi ht => k.2 i hi (fun cs => ⟨(ht cs).2.2.1, (ht cs).2.2.2⟩)⟩
theorem KeepO.ofT {w w1 w2 : World} (h : KeepO w w1) (k : KeepT w1 w2) : KeepO w w2 := h.trans ⟨k.1, fun i hi ht => k.2 i hi (fun cs => ⟨(ht cs).1, (ht cs).2.1⟩)⟩
theorem KeepO.at_ {w w' : World} (h : KeepO w w') {k : Nat} {cs : Array Value} {t : TypeId} (hk : w.heap[k]? = some (.cells cs t (0, 0))) (h1 : t ≠ 56 ∧ t ≠ 27 ∧ t ≠ 60 ∧ t ≠ 71) : w'.heap[k]? = some (.cells cs t (0, 0)) :=
 (h.2 k (blk_lt hk) (fun cs' => by
  rw [hk]
  exact ⟨fun e => h1.1 (by injection e with e; injection e), fun e => h1.2.1 (by injection e with e; injection e), fun e => h1.2.2.1 (by injection e with e; injection e), fun e => h1.2.2.2 (by injection e with e; injection e)⟩)).trans hk
theorem KeepM.refl (w : World) : KeepM w w := ⟨Nat.le_refl _, fun _ _ _ => rfl⟩
theorem MR.far {w w' : World} {base b : Nat} {u0 u1 : Value} {l0 : List S60} {l1 : List S71} {cs : Array Value} {t : TypeId} (h : MR w base u0 u1 l0 l1) (hb : w.heap[b]? = some (.cells cs t (0, 0))) (h1 : t ≠ 60) (h2 : t ≠ 71) (hf : ∀ k, k ≠ b → w'.heap[k]? = w.heap[k]?) : MR w' base u0 u1 l0 l1 := by
 have hne : ∀ k, PM w k → k ≠ b := by
  rintro k ⟨cs', hc⟩ rfl
  rw [hb] at hc
  rcases hc with hc | hc
  ·injection hc with hc; injection hc with _ e _; exact h1 e
  ·injection hc with hc; injection hc with _ e _; exact h2 e
 exact ⟨Kd.R_mono (Kd.R_move h.bound.1 (fun k hk => hf k (hne k hk))) (fun _ _ => trivial), Kd.R_mono (Kd.R_move h.bound.2 (fun k hk => hf k (hne k hk))) (fun _ _ => trivial)⟩
theorem Tr.setB {w0 w : World} {g : Nat} {n : NetS} {bs : List (Nat × Obj)} {k : Nat} {o : Obj} (h : Tr w0 w g n bs) (hm : (k, o) ∈ bs) (hk : w0.heap.size ≤ k) (j : Nat) (u : Value) : Tr w0 (w.setCell ⟨k, j, none⟩ u) g n (bs.filter fun q => q.1 != k) := by
 obtain ⟨h0, v, h1, h2⟩ := h
 have hq := h2 _ hm
 refine ⟨h0.setCell hk u, v, h1.setFar (Ne.symm hq.ne) (Ne.symm hq.own) j u, fun q hq' => ?_⟩
 obtain ⟨hq1, hq2⟩ := List.mem_filter.1 hq'
 have hne : q.1 ≠ k := by simpa using hq2
 exact ⟨(Below.heap_setCell w ⟨k, j, none⟩ u q.1 hne).trans (h2 q hq1).blk, (h2 q hq1).ne, (h2 q hq1).own⟩
/-- A struct of five cells is stored in a block beside the net. -/
def set5 (w : World) (b : Nat) (x0 x1 x2 x3 x4 : Value) : World := ((((w.setCell ⟨b, 0, none⟩ x0).setCell ⟨b, 1, none⟩ x1).setCell ⟨b, 2, none⟩ x2).setCell ⟨b, 3, none⟩ x3).setCell ⟨b, 4, none⟩ x4
theorem set5_far (w : World) (b : Nat) (x0 x1 x2 x3 x4 : Value) (k : Nat) (hk : k ≠ b) : (set5 w b x0 x1 x2 x3 x4).heap[k]? = w.heap[k]? := by
 unfold set5
 rw [Below.heap_setCell _ _ _ _ hk, Below.heap_setCell _ _ _ _ hk, Below.heap_setCell _ _ _ _ hk, Below.heap_setCell _ _ _ _ hk, Below.heap_setCell _ _ _ _ hk]
theorem set5_at (w : World) (b : Nat) (x0 x1 x2 x3 x4 y0 y1 y2 y3 y4 : Value) (h : w.heap[b]? = some (.cells #[y0, y1, y2, y3, y4] 41 (0, 0))) : (set5 w b x0 x1 x2 x3 x4).heap[b]? = some (.cells #[x0, x1, x2, x3, x4] 41 (0, 0)) := by
 unfold set5
 exact blk_put (blk_put (blk_put (blk_put (blk_put h 0 _ rfl) 1 _ rfl) 2 _ rfl) 3 _ rfl) 4 _ rfl
theorem KeepO.set {w w1 : World} (h : KeepO w w1) {b : Nat} (hb : w.heap.size ≤ b) (j : Nat) (u : Value) : KeepO w (w1.setCell ⟨b, j, none⟩ u) :=
 ⟨by simpa [World.setCell] using h.1, fun k hk ht => (Below.heap_setCell w1 _ u k (by show k ≠ b; omega)).trans (h.2 k hk ht)⟩
theorem KeepO.set5 {w w1 : World} (h : KeepO w w1) {b : Nat} (hb : w.heap.size ≤ b) (x0 x1 x2 x3 x4 : Value) : KeepO w (set5 w1 b x0 x1 x2 x3 x4) := ((((h.set hb _ _).set hb _ _).set hb _ _).set hb _ _).set hb _ _
theorem Tr.set5 {w0 w : World} {g : Nat} {n : NetS} {bs : List (Nat × Obj)} {k : Nat} {o : Obj} (h : Tr w0 w g n bs) (hm : (k, o) ∈ bs) (hk : w0.heap.size ≤ k) (x0 x1 x2 x3 x4 : Value) : Tr w0 (set5 w k x0 x1 x2 x3 x4) g n [] := by
 obtain ⟨h0, v, h1, h2⟩ := h
 have hq := h2 _ hm
 exact ⟨((((h0.setCell hk _).setCell hk _).setCell hk _).setCell hk _).setCell hk _, v, ((((h1.setFar (Ne.symm hq.ne) (Ne.symm hq.own) _ _).setFar (Ne.symm hq.ne) (Ne.symm hq.own) _ _).setFar (Ne.symm hq.ne) (Ne.symm hq.own) _ _).setFar (Ne.symm hq.ne) (Ne.symm hq.own) _ _).setFar (Ne.symm hq.ne) (Ne.symm hq.own) _ _, fun q hq => by cases hq⟩
theorem notMs {bs : List (Nat × Obj)} (h : ∀ q ∈ bs, ∃ cs t, q.2 = .cells cs t (0, 0) ∧ t ≠ 60 ∧ t ≠ 71) : ∀ q ∈ bs, NotM q.2 := fun q hq => by
 obtain ⟨cs, t, e, h1, h2⟩ := h q hq
 rw [e]
 exact NotM.of h1 h2
theorem Node.of (a : Int) : stowageref08_Node.f a = some (decide (0 ≤ a ∧ a < 7)) := by
 unfold stowageref08_Node.f
 by_cases h : a ≥ 0
 ·rw [if_pos h]
  have : (0 : Int) ≤ a := h
  simp [this]
 ·rw [if_neg h]
  have : ¬ (0 : Int) ≤ a := h
  simp [this]
theorem cutAB_isCut (n : NetS) (h : n.cut.length = 49) (a b i j : Int) (ha : 0 ≤ a ∧ a < 7) (hb : 0 ≤ b ∧ b < 7) (hi : 0 ≤ i ∧ i < 7) (hj : 0 ≤ j ∧ j < 7) :
  (n.cutAB a b).isCut i j = (n.isCut i j || (decide (i = a ∧ j = b) || decide (i = b ∧ j = a))) := by
 unfold NetS.isCut NetS.cutAB
 simp only [List.getD_eq_getElem?_getD, List.getElem?_set, List.length_set, h]
 by_cases h1 : i = b ∧ j = a
 ·obtain ⟨rfl, rfl⟩ := h1
  rw [if_pos rfl, if_pos (by omega)]
  simp
 ·rw [if_neg (by omega)]
  by_cases h2 : i = a ∧ j = b
  ·obtain ⟨rfl, rfl⟩ := h2
   rw [if_pos rfl, if_pos (by omega)]
   simp
  ·rw [if_neg (by omega)]
   have e1 : decide (i = a ∧ j = b) = false := decide_eq_false h2
   have e2 : decide (i = b ∧ j = a) = false := decide_eq_false h1
   rw [e1, e2, Bool.or_self, Bool.or_false]
/-- A send over a way that is not cut. -/
theorem send_go (n : NetS) (p : S60) (hp : 0 ≤ p.f0 ∧ p.f0 < 7 ∧ 0 ≤ p.f1 ∧ p.f1 < 7 ∧ p.f0 ≠ p.f1) (hc : n.isCut p.f0 p.f1 = false) (hl : n.l.length < 4096) : n.send p = ({ n with l := n.l ++ [p], a := wrap64 (n.a + 1) }, true) := by
 unfold NetS.send
 rw [if_pos hp, if_neg (by rw [hc]; simp; omega)]
/-- A send over a way that is cut. -/
theorem send_cut (n : NetS) (p : S60) (hp : 0 ≤ p.f0 ∧ p.f0 < 7 ∧ 0 ≤ p.f1 ∧ p.f1 < 7 ∧ p.f0 ≠ p.f1) (hc : n.isCut p.f0 p.f1 = true) : n.send p = ({ n with a := wrap64 (n.a + 1), c := wrap64 (n.c + 1) }, false) := by
 unfold NetS.send
 rw [if_pos hp, if_pos (.inl hc)]
def anyCut (l1 : List S71) (a b : Int) : Bool := l1.any fun c => (decide (c.f0 = a) && decide (c.f1 = b)) || (decide (c.f0 = b) && decide (c.f1 = a))
theorem rd71 (l : List S71) (j : Nat) : rd_T71 l (j : Int) = l.getD j z71 := rfl
theorem rd60 (l : List S60) (j : Nat) : rd_T60 l (j : Int) = l.getD j z60 := rfl
theorem drop71 (l : List S71) (i : Nat) (hi : i < l.length) : l.drop i = l.getD i z71 :: l.drop (i + 1) := by
 rw [List.drop_eq_getElem_cons hi, List.getD_eq_getElem?_getD, List.getElem?_eq_getElem hi]
 rfl
theorem drop60 (l : List S60) (i : Nat) (hi : i < l.length) : l.drop i = l.getD i z60 :: l.drop (i + 1) := by
 rw [List.drop_eq_getElem_cons hi, List.getD_eq_getElem?_getD, List.getElem?_eq_getElem hi]
 rfl
theorem wrapn (j : Nat) (h : j < 4611686018427387904) : wrap64 ((j : Int) + 1) = ((j + 1 : Nat) : Int) := by unfold wrap64; omega
theorem isCut_l (a b : Int) (l0 : List S60) (l1 : List S71) (a2 a3 a4 : Int) (hl : l1.length < 4611686018427387904) : ∀ (k j : Nat), j ≤ l1.length → l1.length - j < k → stowageref08_Wires_IsCut.l0 k a b (j : Int) l0 l1 a2 a3 a4 = some (anyCut (l1.drop j) a b)
 | 0, j, _, h => by omega
 | k + 1, j, hj, h => by
  rw [stowageref08_Wires_IsCut.l0]
  by_cases hlt : j < l1.length
  ·have ih := isCut_l a b l0 l1 a2 a3 a4 hl k (j + 1) (by omega) (by omega)
   rw [if_pos (by omega), if_pos (by omega), rd71, wrapn j (by omega), ih, drop71 l1 j hlt]
   generalize l1.getD j z71 = c
   unfold anyCut
   rw [List.any_cons]
   by_cases h1 : c.f0 = a
   ·rw [if_pos h1]
    by_cases h2 : c.f1 = b
    ·rw [if_pos h2]; simp [h1, h2]
    ·rw [if_neg h2]
     by_cases h3 : c.f0 = b
     ·rw [if_pos h3]
      by_cases h4 : c.f1 = a
      ·rw [if_pos h4]; simp [h3, h4]
      ·rw [if_neg h4]; simp [h2, h4]
     ·rw [if_neg h3]; simp [h2, h3]
   ·rw [if_neg h1]
    by_cases h3 : c.f0 = b
    ·rw [if_pos h3]
     by_cases h4 : c.f1 = a
     ·rw [if_pos h4]; simp [h3, h4]
     ·rw [if_neg h4]; simp [h1, h4]
    ·rw [if_neg h3]; simp [h1, h3]
  ·rw [if_neg (by omega), List.drop_of_length_le (by omega)]
   rfl
theorem isCut_f (k : Nat) (a b : Int) (l0 : List S60) (l1 : List S71) (a2 a3 a4 : Int) (hl : l1.length < 4611686018427387904) (hk : l1.length < k) : stowageref08_Wires_IsCut.f k l0 l1 a2 a3 a4 a b = some (anyCut l1 a b) := by
 have := isCut_l a b l0 l1 a2 a3 a4 hl k 0 (by omega) (by omega)
 rw [List.drop_zero] at this
 exact this
/-- The reference's net is this one. -/
structure Rel (n : NetS) (l0 : List S60) (l1 : List S71) (a2 a3 a4 : Int) : Prop where
 l : n.l = l0
 a : n.a = a2
 b : n.b = a3
 c : n.c = a4
 cut : ∀ i j, 0 ≤ i ∧ i < 7 → 0 ≤ j ∧ j < 7 → n.isCut i j = anyCut l1 i j
section
variable {n : NetS} {l0 : List S60} {l1 : List S71} {a2 a3 a4 : Int}
theorem at_ref (h : Rel n l0 l1 a2 a3 a4) (i : Int) : stowageref08_Wires_At.f l0 l1 a2 a3 a4 i = some ((n.at_ i).1.f0, (n.at_ i).1.f1, (n.at_ i).1.f2, (n.at_ i).2) := by
 unfold stowageref08_Wires_At.f NetS.at_
 rw [h.l]
 by_cases h1 : i < 0
 ·rw [if_pos h1, if_neg (by omega)]
  rfl
 ·rw [if_neg h1]
  by_cases h2 : i ≥ (l0.length : Int)
  ·rw [if_pos h2, if_neg (by omega)]
   rfl
  ·rw [if_neg h2, if_pos (by omega), if_pos (by omega), if_pos (by omega)]
   rfl
theorem without_ref (l : List S60) (i : Nat) (hi : i < l.length) (hl : l.length ≤ 4096) : stowageref08_without.f l (i : Int) = some (l.eraseIdx i) := by
 have hM : ∀ x : Nat, x ≤ 4096 → x < 4398046511104 := fun x hx => Nat.lt_of_le_of_lt hx (by decide)
 have e1 : ([] : List S60).length + (l.take i).length < 4398046511104 := hM _ (by rw [List.length_nil, List.length_take]; omega)
 have e2 : (([] : List S60) ++ l.take i).length + (l.drop (i + 1)).length < 4398046511104 := hM _ (by rw [List.nil_append, List.length_take, List.length_drop]; omega)
 unfold stowageref08_without.f
 rw [Option.bind_some, if_pos (Int.natCast_nonneg i), if_pos (Int.ofNat_le.2 (Nat.le_of_lt hi)), Int.toNat_natCast, Option.bind_some, if_pos e1, Option.bind_some, wrapn i (by omega), if_pos (Int.natCast_nonneg _), if_pos (Int.ofNat_le.2 hi), Int.toNat_natCast, Option.bind_some, if_pos e2, List.nil_append, List.eraseIdx_eq_take_drop_succ]
theorem drop_ref (h : Rel n l0 l1 a2 a3 a4) (hl : n.l.length ≤ 4096) (i : Int) : ∃ r1 r3 r4 r5, stowageref08_Wires_Drop.f l0 l1 a2 a3 a4 i = some (r1, l1, r3, r4, r5, (n.drop i).2) ∧ Rel (n.drop i).1 r1 l1 r3 r4 r5 := by
 unfold stowageref08_Wires_Drop.f
 rw [at_ref h i, Option.bind_some]
 unfold NetS.at_ NetS.drop
 by_cases hi : 0 ≤ i ∧ i < n.l.length
 ·rw [if_pos hi, if_pos hi]
  obtain ⟨k, rfl⟩ := Int.eq_ofNat_of_zero_le hi.1
  have hw := without_ref n.l k (by omega) hl
  rw [h.l] at hw
  simp only [if_true, hw, Option.bind_some]
  exact ⟨_, _, _, _, rfl, ⟨by simp [h.l], h.a, h.b, by rw [h.c], h.cut⟩⟩
 ·rw [if_neg hi, if_neg hi]
  exact ⟨_, _, _, _, rfl, h⟩
theorem double_ref (h : Rel n l0 l1 a2 a3 a4) (hl : n.l.length ≤ 4096) (i : Int) : ∃ r1 r3 r4 r5, stowageref08_Wires_Double.f l0 l1 a2 a3 a4 i = some (r1, l1, r3, r4, r5, (n.double i).2) ∧ Rel (n.double i).1 r1 l1 r3 r4 r5 := by
 unfold stowageref08_Wires_Double.f
 rw [at_ref h i, Option.bind_some]
 unfold NetS.at_ NetS.double
 by_cases hi : 0 ≤ i ∧ i < n.l.length
 ·rw [if_pos hi, if_pos hi]
  rw [← h.l]
  by_cases hf : 4096 ≤ n.l.length
  ·rw [if_pos hf]
   simp only [if_true]
   rw [if_pos (by omega)]
   exact ⟨_, _, _, _, rfl, ⟨rfl, h.a, h.b, h.c, h.cut⟩⟩
  ·rw [if_neg hf]
   simp only [if_true, Option.bind_some]
   rw [if_neg (by omega), if_pos (by simp; omega), if_pos (by simp; omega)]
   exact ⟨_, _, _, _, rfl, ⟨by simp, by rw [h.a], h.b, h.c, h.cut⟩⟩
 ·rw [if_neg hi, if_neg hi]
  exact ⟨_, _, _, _, rfl, h⟩
theorem send_ref (h : Rel n l0 l1 a2 a3 a4) (hl : n.l.length ≤ 4096) (k : Nat) (hk : l1.length < k) (hb : l1.length < 4611686018427387904) (p : S60) : ∃ r1 r3 r4 r5, stowageref08_Wires_Send.f k l0 l1 a2 a3 a4 p.f0 p.f1 p.f2 = some (r1, l1, r3, r4, r5, (n.send p).2) ∧ Rel (n.send p).1 r1 l1 r3 r4 r5 := by
 unfold stowageref08_Wires_Send.f NetS.send
 rw [Node.of, Option.bind_some, Node.of]
 by_cases hd : 0 ≤ p.f0 ∧ p.f0 < 7 ∧ 0 ≤ p.f1 ∧ p.f1 < 7 ∧ p.f0 ≠ p.f1
 ·rw [if_pos hd, if_pos (decide_eq_true ⟨hd.1, hd.2.1⟩), Option.bind_some, if_pos (decide_eq_true ⟨hd.2.2.1, hd.2.2.2.1⟩), if_neg hd.2.2.2.2, isCut_f k _ _ _ _ _ _ _ hb hk, Option.bind_some, ← h.cut p.f0 p.f1 ⟨hd.1, hd.2.1⟩ ⟨hd.2.2.1, hd.2.2.2.1⟩]
  by_cases hc : n.isCut p.f0 p.f1 = true
  ·rw [if_pos hc, if_pos (.inl hc)]
   exact ⟨_, _, _, _, rfl, ⟨h.l, by rw [h.a], h.b, by rw [h.c], h.cut⟩⟩
  ·rw [if_neg hc, ← h.l]
   by_cases hf : 4096 ≤ n.l.length
   ·rw [if_pos (by omega), if_pos (.inr hf)]
    exact ⟨_, _, _, _, rfl, ⟨rfl, by rw [h.a], h.b, by rw [h.c], h.cut⟩⟩
   ·rw [if_neg (by omega), if_neg (by rintro (e | e); exact hc e; exact hf e)]
    simp only [Option.bind_some]
    rw [if_pos (by simp; omega), if_pos (by simp; omega)]
    exact ⟨_, _, _, _, rfl, ⟨by simp, by rw [h.a], h.b, h.c, h.cut⟩⟩
 ·rw [if_neg hd]
  by_cases h1 : 0 ≤ p.f0 ∧ p.f0 < 7
  ·rw [if_pos (decide_eq_true h1), Option.bind_some]
   by_cases h2 : 0 ≤ p.f1 ∧ p.f1 < 7
   ·rw [if_pos (decide_eq_true h2), if_pos (by omega)]
    exact ⟨_, _, _, _, rfl, ⟨h.l, by rw [h.a], h.b, by rw [h.c], h.cut⟩⟩
   ·rw [if_neg (by simpa using h2)]
    exact ⟨_, _, _, _, rfl, ⟨h.l, by rw [h.a], h.b, by rw [h.c], h.cut⟩⟩
  ·rw [if_neg (by simpa using h1)]
   exact ⟨_, _, _, _, rfl, ⟨h.l, by rw [h.a], h.b, by rw [h.c], h.cut⟩⟩
end
theorem clear_l (node : Int) (l0 : List S60) (l1 : List S71) (a2 a3 a4 : Int) (hl : l0.length ≤ 4096) : ∀ (k j : Nat) (acc : List S60), j ≤ l0.length → acc.length ≤ j → l0.length - j < k → stowageref08_Wires_Clear.l0 k node acc (j : Int) l0 l1 a2 a3 a4 = some (acc ++ (l0.drop j).filter (fun x => !(x.f1 == node)), l1, a2, a3, wrap64 (a4 + wrap64 ((l0.length : Int) - ((acc ++ (l0.drop j).filter (fun x => !(x.f1 == node))).length : Int))), wrap64 ((l0.length : Int) - ((acc ++ (l0.drop j).filter (fun x => !(x.f1 == node))).length : Int)))
 | 0, j, acc, _, _, h => by omega
 | k + 1, j, acc, hj, ha, h => by
  rw [stowageref08_Wires_Clear.l0]
  by_cases hlt : j < l0.length
  ·rw [if_pos (Int.ofNat_lt.2 hlt), if_pos (Int.natCast_nonneg j), rd60, wrapn j (by omega), drop60 l0 j hlt]
   have hc : acc.length < 4398046511104 := Nat.lt_of_le_of_lt (Nat.le_trans ha (Nat.le_trans hj hl)) (by decide)
   generalize l0.getD j z60 = x
   by_cases h1 : x.f1 = node
   ·rw [if_pos h1, clear_l node l0 l1 a2 a3 a4 hl k (j + 1) acc (by omega) (by omega) (by omega), List.filter_cons, if_neg (by simp [h1])]
   ·rw [if_neg h1, if_pos hc, clear_l node l0 l1 a2 a3 a4 hl k (j + 1) _ (by omega) (by rw [List.length_append, List.length_singleton]; omega) (by omega), List.filter_cons, if_pos (by simp [h1]), List.append_assoc]
    rfl
  ·rw [if_neg (by omega), List.drop_of_length_le (by omega)]
   simp
theorem cut_l (l0 : List S60) (l1 : List S71) (a2 a3 a4 : Int) (hl : l0.length ≤ 4096) (hb : l1.length < 4611686018427387904) : ∀ (k j : Nat) (acc : List S60), j ≤ l0.length → acc.length ≤ j → l0.length - j + l1.length + 1 < k → stowageref08_Wires_Cut.l0 k acc (j : Int) l0 l1 a2 a3 a4 = some (acc ++ (l0.drop j).filter (fun x => !(anyCut l1 x.f0 x.f1)), l1, a2, a3, wrap64 (a4 + wrap64 ((l0.length : Int) - ((acc ++ (l0.drop j).filter (fun x => !(anyCut l1 x.f0 x.f1))).length : Int))), wrap64 ((l0.length : Int) - ((acc ++ (l0.drop j).filter (fun x => !(anyCut l1 x.f0 x.f1))).length : Int)))
 | 0, j, acc, _, _, h => by omega
 | k + 1, j, acc, hj, ha, h => by
  rw [stowageref08_Wires_Cut.l0]
  by_cases hlt : j < l0.length
  ·rw [if_pos (Int.ofNat_lt.2 hlt), if_pos (Int.natCast_nonneg j), rd60, isCut_f k _ _ _ _ _ _ _ hb (by omega), Option.bind_some, wrapn j (by omega), drop60 l0 j hlt]
   have hc : acc.length < 4398046511104 := Nat.lt_of_le_of_lt (Nat.le_trans ha (Nat.le_trans hj hl)) (by decide)
   generalize l0.getD j z60 = x
   by_cases h1 : anyCut l1 x.f0 x.f1 = true
   ·rw [if_pos h1, cut_l l0 l1 a2 a3 a4 hl hb k (j + 1) acc (by omega) (by omega) (by omega), List.filter_cons, if_neg (by simp [h1])]
   ·rw [if_neg h1, if_pos hc, cut_l l0 l1 a2 a3 a4 hl hb k (j + 1) _ (by omega) (by rw [List.length_append, List.length_singleton]; omega) (by omega), List.filter_cons, if_pos (by simpa using h1), List.append_assoc]
    rfl
  ·rw [if_neg (by omega), List.drop_of_length_le (by omega)]
   simp
section
variable {n : NetS} {l0 : List S60} {l1 : List S71} {a2 a3 a4 : Int}
theorem wrap_small (a b : Nat) (ha : a ≤ 4096) (hb : b ≤ 4096) : wrap64 ((a : Int) - (b : Int)) = (a : Int) - (b : Int) := by unfold wrap64; omega
theorem clear_ref (h : Rel n l0 l1 a2 a3 a4) (hl : n.l.length ≤ 4096) (k : Nat) (hk : n.l.length < k) (i : Int) : ∃ r1 r3 r4 r5, stowageref08_Wires_Clear.f k l0 l1 a2 a3 a4 i = some (r1, l1, r3, r4, r5, (n.l.length : Int) - ((n.l.filter fun x => !(x.f1 == i)).length : Int)) ∧ Rel (n.lose fun x => x.f1 == i) r1 l1 r3 r4 r5 := by
 have hf : (n.l.filter fun x => !(x.f1 == i)).length ≤ 4096 := Nat.le_trans (List.length_filter_le _ _) hl
 have := clear_l i l0 l1 a2 a3 a4 (by rw [← h.l]; exact hl) k 0 [] (by omega) (by simp) (by rw [← h.l]; omega)
 rw [List.drop_zero, List.nil_append, ← h.l, wrap_small _ _ hl hf] at this
 unfold stowageref08_Wires_Clear.f
 rw [← h.l]
 exact ⟨_, _, _, _, this, ⟨rfl, h.a, h.b, by show wrap64 (n.c + _) = _; rw [h.c], h.cut⟩⟩
theorem cut_ref (h : Rel n l0 l1 a2 a3 a4) (hl : n.l.length ≤ 4096) (hcl : n.cut.length = 49) (hok : ∀ p ∈ n.l, 0 ≤ p.f0 ∧ p.f0 < 7 ∧ 0 ≤ p.f1 ∧ p.f1 < 7) (k : Nat) (hk : n.l.length + l1.length + 5 < k) (hb : l1.length < 1000000) (a b : Int) : ∃ r1 r2 r3 r4 r5, stowageref08_Wires_Cut.f k l0 l1 a2 a3 a4 a b = some (r1, r2, r3, r4, r5, (n.cutN a b).2) ∧ Rel (n.cutN a b).1 r1 r2 r3 r4 r5 ∧ r2.length ≤ l1.length + 1 := by
 obtain ⟨k, rfl⟩ : ∃ q, k = q + 1 := ⟨k - 1, by omega⟩
 unfold stowageref08_Wires_Cut.f NetS.cutN
 rw [Node.of, Option.bind_some, Node.of]
 by_cases hd : 0 ≤ a ∧ a < 7 ∧ 0 ≤ b ∧ b < 7 ∧ a ≠ b
 ·rw [if_pos hd, if_pos (decide_eq_true ⟨hd.1, hd.2.1⟩), Option.bind_some, if_pos (decide_eq_true ⟨hd.2.2.1, hd.2.2.2.1⟩), stowageref08_Wires_Cut.j0, if_neg (by simpa using hd.2.2.2.2), Option.bind_some]
  have e1 : ([] : List S71).length + l1.length < 8796093022208 := Nat.lt_of_le_of_lt (show _ ≤ 1000000 by rw [List.length_nil]; omega) (by decide)
  have e2 : (([] : List S71) ++ l1).length < 8796093022208 := Nat.lt_of_le_of_lt (show _ ≤ 1000000 by rw [List.nil_append]; omega) (by decide)
  rw [if_pos e1, Option.bind_some, if_pos e2, List.nil_append]
  have hc : ∀ i j, 0 ≤ i ∧ i < 7 → 0 ≤ j ∧ j < 7 → (n.cutAB a b).isCut i j = anyCut (l1 ++ [⟨a, b⟩]) i j := fun i j hi hj => by
   rw [cutAB_isCut n hcl a b i j ⟨hd.1, hd.2.1⟩ ⟨hd.2.2.1, hd.2.2.2.1⟩ hi hj, h.cut i j hi hj]
   unfold anyCut
   rw [List.any_append]
   congr 1
   simp only [List.any_cons, List.any_nil, Bool.or_false]
   rw [Bool.eq_iff_iff]
   simp only [Bool.or_eq_true, Bool.and_eq_true, decide_eq_true_eq]
   constructor <;> (rintro (⟨x, y⟩ | ⟨x, y⟩) <;> omega)
  have hfe : (n.l.filter fun x => !(n.cutAB a b).isCut x.f0 x.f1) = n.l.filter fun x => !(anyCut (l1 ++ [⟨a, b⟩]) x.f0 x.f1) := by
   apply List.filter_congr
   intro x hx
   have := hok x hx
   rw [hc x.f0 x.f1 ⟨this.1, this.2.1⟩ ⟨this.2.2.1, this.2.2.2⟩]
  have hlen : (l1 ++ [(⟨a, b⟩ : S71)]).length = l1.length + 1 := by rw [List.length_append, List.length_singleton]
  have hf : (n.l.filter fun x => !(anyCut (l1 ++ [⟨a, b⟩]) x.f0 x.f1)).length ≤ 4096 := Nat.le_trans (List.length_filter_le _ _) hl
  have := cut_l n.l (l1 ++ [⟨a, b⟩]) a2 a3 a4 hl (by rw [hlen]; omega) k 0 [] (by omega) (by simp) (by rw [hlen]; omega)
  rw [List.drop_zero, List.nil_append, wrap_small _ _ hl hf] at this
  rw [← h.l, hfe]
  refine ⟨_, _, _, _, _, this, ⟨?_, h.a, h.b, ?_, hc⟩, by rw [hlen]; exact Nat.le_refl _⟩
  ·show (n.l.filter _) = _
   exact hfe
  ·show wrap64 (n.c + _) = _
   rw [h.c]
   show wrap64 (a4 + ((n.l.length : Int) - ((n.l.filter fun x => !(n.cutAB a b).isCut x.f0 x.f1).length : Int))) = _
   rw [hfe]
 ·rw [if_neg hd]
  have hj : stowageref08_Wires_Cut.j0 (k + 1) a b true l0 l1 a2 a3 a4 = some (l0, l1, a2, a3, a4, 0) := by
   rw [stowageref08_Wires_Cut.j0, if_pos rfl]
  by_cases h1 : 0 ≤ a ∧ a < 7
  ·rw [if_pos (decide_eq_true h1), Option.bind_some]
   by_cases h2 : 0 ≤ b ∧ b < 7
   ·rw [if_pos (decide_eq_true h2), show (a == b) = true by simp; omega, hj]
    exact ⟨_, _, _, _, _, rfl, h, by omega⟩
   ·rw [if_neg (by simpa using h2), hj]
    exact ⟨_, _, _, _, _, rfl, h, by omega⟩
  ·rw [if_neg (by simpa using h1), hj]
   exact ⟨_, _, _, _, _, rfl, h, by omega⟩
end
theorem tr_set5b {w0 w : World} {g : Nat} {n : NetS} {L bs : List (Nat × Obj)} {k : Nat} {o : Obj} (h : Tr w0 w g n L) (hm : (k, o) ∈ L) (hk : w0.heap.size ≤ k) (hs : ∀ q ∈ bs, q ∈ L) (hne : ∀ q ∈ bs, q.1 ≠ k) (x0 x1 x2 x3 x4 : Value) : Tr w0 (set5 w k x0 x1 x2 x3 x4) g n bs := by
 obtain ⟨h0, v, h1, h2⟩ := h
 have hq := h2 _ hm
 exact ⟨((((h0.setCell hk _).setCell hk _).setCell hk _).setCell hk _).setCell hk _, v, ((((h1.setFar (Ne.symm hq.ne) (Ne.symm hq.own) _ _).setFar (Ne.symm hq.ne) (Ne.symm hq.own) _ _).setFar (Ne.symm hq.ne) (Ne.symm hq.own) _ _).setFar (Ne.symm hq.ne) (Ne.symm hq.own) _ _).setFar (Ne.symm hq.ne) (Ne.symm hq.own) _ _, fun q hq => ⟨(set5_far w k x0 x1 x2 x3 x4 q.1 (hne q hq)).trans (h2 q (hs q hq)).blk, (h2 q (hs q hq)).ne, (h2 q (hs q hq)).own⟩⟩
theorem stowagelaw08_oneT.send {w0 w : World} {g : Nat} {n : NetS} {u0 u1 : Value} {l0 : List S60} {l1 : List S71} {a2 a3 a4 kd x y i1 i2 : Int} {s : ByteArray} {bs : List (Nat × Obj)} (hbs : ∀ q ∈ bs, NotM q.2) (hT : Tr w0 w g n bs) (hM : MR w w0.heap.size u0 u1 l0 l1) (hk : kd = 0) {k : Nat} {r1 : List S60} {r2 : List S71} {r3 r4 r5 : Int} {r6 : Bool} (h : stowageref08_Wires_Send.f k l0 l1 a2 a3 a4 x y s = some (r1, r2, r3, r4, r5, r6)) :
  Calls Try.prog 17 #[.pointer (some ⟨g, 0, none⟩), .agg #[u0, u1, .int .i64 a2, .int .i64 a3, .int .i64 a4], .agg #[.int .i64 kd, .int .i64 x, .int .i64 y, .string s, .int .i64 i1, .int .i64 i2]] w fun e w' => ∃ v0 v1, e = .returned (.tuple #[.agg #[v0, v1, .int .i64 r3, .int .i64 r4, .int .i64 r5], .bool ((n.send ⟨x, y, s⟩).2 == r6)]) ∧ MR w' w0.heap.size v0 v1 r1 r2 ∧ Tr w0 w' g (n.send ⟨x, y, s⟩).1 bs ∧ KeepO w w' := by
 obtain ⟨A0, c0, A1, c1, rfl, rfl⟩ := hM.slices
 have HBS := Aside0.mk hbs
 have HLT : Aside0 (∀ q ∈ bs, q.1 < w.heap.size) := ⟨fun q hq => blk_lt (hT.mem (k := q.1) (o := q.2) hq)⟩
 clear hbs
 have Tw := Aside0.mk hT
 have Mw := Aside0.mk hM
 have Ow := Aside0.mk (KeepO.refl w)
 have HR := Aside0.mk h
 clear hT hM h
 have q0 : (kd == 0) = true := beq_iff_eq.mpr hk
 clear hk
 go_enter Try.func17, Try.ntmps17
 go_wp2_with (first
  | ((with_reducible refine gate_dst (N := 4) rfl ?_); refine box_event ?hg (N := 4) ?hd (cs := #[.slice A0 l0.length c0, .slice A1 l1.length c1, .int .i64 a2, .int .i64 a3, .int .i64 a4]) (t := 41) ?hr ?_; (case hd => rfl); (case hg => rfl); (case hr => first | (go_simp; done) | (go_simp; rfl)); intro b4 hgb4 w1 hbox hb; have Tw1 := Aside0.mk (Tr.box Tw.out hb hgb4 hbox); have Mw1 := Aside0.mk (Mw.out.below hb); have Ow1 := Aside0.mk (Ow.out.below hb); have Gb4 : Aside0 (w.heap.size ≤ b4) := ⟨by rw [hgb4]; exact Ow.out.1⟩; have Lb4 : Aside0 (w0.heap.size ≤ b4) := ⟨by rw [hgb4]; exact Tw.out.1.size⟩; clear Tw Mw Ow hb hbox hgb4)
  | ((with_reducible refine gate_dst (N := 5) rfl ?_); refine box_event ?hg (N := 5) ?hd (cs := #[.int .i64 kd, .int .i64 x, .int .i64 y, .string s, .int .i64 i1, .int .i64 i2]) (t := 45) ?hr ?_; (case hd => rfl); (case hg => rfl); (case hr => first | (go_simp; done) | (go_simp; rfl)); intro b5 hgb5 w2 hbox hb; have Tw2 := Aside0.mk (Tr.box Tw1.out hb hgb5 hbox); have Mw2 := Aside0.mk (Mw1.out.below hb); have Ow2 := Aside0.mk (Ow1.out.below hb); have Gb5 : Aside0 (w.heap.size ≤ b5) := ⟨by rw [hgb5]; exact Ow1.out.1⟩; have Lb5 : Aside0 (w0.heap.size ≤ b5) := ⟨by rw [hgb5]; exact Tw1.out.1.size⟩; clear Tw1 Mw1 Ow1 hb hbox hgb5)
  | ((with_reducible refine gate_dst (N := 6) rfl ?_); refine box_event ?hg (N := 6) ?hd (cs := #[.slice none 0 0, .slice none 0 0, .int .i64 0, .int .i64 0, .int .i64 0]) (t := 41) ?hr ?_; (case hd => rfl); (case hg => rfl); (case hr => first | (go_simp; done) | (go_simp; rfl)); intro b6 hgb6 w3 hbox hb; have Tw3 := Aside0.mk (Tr.box Tw2.out hb hgb6 hbox); have Mw3 := Aside0.mk (Mw2.out.below hb); have Ow3 := Aside0.mk (Ow2.out.below hb); have Gb6 : Aside0 (w.heap.size ≤ b6) := ⟨by rw [hgb6]; exact Ow2.out.1⟩; have Lb6 : Aside0 (w0.heap.size ≤ b6) := ⟨by rw [hgb6]; exact Tw2.out.1.size⟩; have N46 : Aside0 (b4 ≠ b6) := ⟨by rw [hgb6]; exact Nat.ne_of_lt (blk_lt (Tw2.out.mem (k := b4) (o := .cells #[.slice A0 l0.length c0, .slice A1 l1.length c1, .int .i64 a2, .int .i64 a3, .int .i64 a4] 41 (0, 0)) (by simp)))⟩; clear Tw2 Mw2 Ow2 hb hbox hgb6; have d5B : w3.heap[b5]? = some (.cells #[.int .i64 kd, .int .i64 x, .int .i64 y, .string s, .int .i64 i1, .int .i64 i2] 45 (0, 0)) := Tw3.out.mem (by simp); have d50 := (blk_cell d5B 0).trans rfl; have d51 := (blk_cell d5B 1).trans rfl; have d52 := (blk_cell d5B 2).trans rfl; have d53 := (blk_cell d5B 3).trans rfl; have d54 := (blk_cell d5B 4).trans rfl; have d55 := (blk_cell d5B 5).trans rfl; have d4B : w3.heap[b4]? = some (.cells #[.slice A0 l0.length c0, .slice A1 l1.length c1, .int .i64 a2, .int .i64 a3, .int .i64 a4] 41 (0, 0)) := Tw3.out.mem (by simp); have d40 := (blk_cell d4B 0).trans rfl; have d41 := (blk_cell d4B 1).trans rfl; have d42 := (blk_cell d4B 2).trans rfl; have d43 := (blk_cell d4B 3).trans rfl; have d44 := (blk_cell d4B 4).trans rfl))
 refine (R_Send Tw3.out.1 Mw3.out HR.out).mono ?_
 rintro e w4 ⟨v0, v1, rfl, hM, hk, hB⟩
 obtain ⟨A2, c2, A3, c3, rfl, rfl⟩ := hM.slices
 have T4 := Aside0.mk ((Tr.keptM Tw3.out hk hB (fun q hq => by simp only [List.mem_cons] at hq; rcases hq with rfl | rfl | rfl | hq; exact NotM.of (by decide) (by decide); exact NotM.of (by decide) (by decide); exact NotM.of (by decide) (by decide); exact HBS.out q hq)).push (.cells #[.slice A2 r1.length c2, .slice A3 r2.length c3, .int .i64 r3, .int .i64 r4, .int .i64 r5] 41 (0, 0)))
 have M4 := Aside0.mk (hM.below (below_alloc (Below.refl w4.heap.size w4) (.cells #[.slice A2 r1.length c2, .slice A3 r2.length c3, .int .i64 r3, .int .i64 r4, .int .i64 r5] 41 (0, 0))))
 have O4 := Aside0.mk ((Ow3.out.ofM hk).below (below_alloc (Below.refl w4.heap.size w4) (.cells #[.slice A2 r1.length c2, .slice A3 r2.length c3, .int .i64 r3, .int .i64 r4, .int .i64 r5] 41 (0, 0))))
 clear Tw3 Mw3 Ow3 hM hk hB d4B d40 d41 d42 d43 d44 d5B d50 d51 d52 d53 d54 d55 HR
 go_upto_region 4 with (fail)
 generalize w4.alloc (.cells #[.slice A2 r1.length c2, .slice A3 r2.length c3, .int .i64 r3, .int .i64 r4, .int .i64 r5] 41 (0, 0)) = w5 at T4 M4 O4 ⊢
 generalize w4.heap.size = b8 at T4 ⊢
 have d5B : w5.heap[b5]? = some (.cells #[.int .i64 kd, .int .i64 x, .int .i64 y, .string s, .int .i64 i1, .int .i64 i2] 45 (0, 0)) := T4.out.mem (by simp)
 have d51 := (blk_cell d5B 1).trans rfl
 have d52 := (blk_cell d5B 2).trans rfl
 have d53 := (blk_cell d5B 3).trans rfl
 have d8B : w5.heap[b8]? = some (.cells #[.slice A2 r1.length c2, .slice A3 r2.length c3, .int .i64 r3, .int .i64 r4, .int .i64 r5] 41 (0, 0)) := T4.out.mem (by simp)
 have d80 := (blk_cell d8B 0).trans rfl
 have d81 := (blk_cell d8B 1).trans rfl
 have d82 := (blk_cell d8B 2).trans rfl
 have d83 := (blk_cell d8B 3).trans rfl
 have d84 := (blk_cell d8B 4).trans rfl
 refine start_ (n := 9) (S := (fun w' => w'.cell? ⟨b8, 0, none⟩ = some (.slice A2 r1.length c2) ∧ w'.cell? ⟨b8, 1, none⟩ = some (.slice A3 r2.length c3) ∧ w'.cell? ⟨b8, 2, none⟩ = some (.int .i64 r3) ∧ w'.cell? ⟨b8, 3, none⟩ = some (.int .i64 r4) ∧ w'.cell? ⟨b8, 4, none⟩ = some (.int .i64 r5) ∧ w'.cell? ⟨b5, 1, none⟩ = some (.int .i64 x) ∧ w'.cell? ⟨b5, 2, none⟩ = some (.int .i64 y) ∧ w'.cell? ⟨b5, 3, none⟩ = some (.string s))) (ds := [7]) #[false, false, false, false, false, false, false, false, false] (by kernel_rfl) rfl rfl ⟨d80, d81, d82, d83, d84, d51, d52, d53⟩ (fun hHeld => ?_)
 refine take_ (i := 0) (N := some 38) (v := ?_) (a' := ?_) #[true, false, false, false, false, false, false, false, false] rfl rfl (by kernel_rfl) (fun _ _ _ h => h) (Or.inl ⟨by rfl, ?_⟩) (by first | exact hHeld | assumption) ?_ ?_
 rotate_left
 ·rintro w' ⟨s0, s1, s2, s3, s4, s5, s6, s7⟩
  go_simp
  with_reducible rfl
 rotate_left
 ·simp only [Act.put, List.setIfInBounds_toArray, List.set_cons_zero, List.set_cons_succ]
  rfl
 refine pure_ (i := 1) (N := some 39) (v := ?_) (a' := ?_) #[true, true, false, false, false, false, false, false, false] rfl rfl (by kernel_rfl) (fun _ _ _ h => h) (Or.inl ⟨by rfl, ?_⟩) ?_ ?_
 rotate_left
 ·intro w'
  go_simp
  with_reducible rfl
 rotate_left
 ·simp only [Act.put, List.setIfInBounds_toArray, List.set_cons_zero, List.set_cons_succ]
  rfl
 refine pure_ (i := 2) (N := some 40) (v := ?_) (a' := ?_) #[true, true, true, false, false, false, false, false, false] rfl rfl (by kernel_rfl) (fun _ _ _ h => h) (Or.inl ⟨by rfl, ?_⟩) ?_ ?_
 rotate_left
 ·intro w'
  go_simp
  with_reducible rfl
 rotate_left
 ·simp only [Act.put, List.setIfInBounds_toArray, List.set_cons_zero, List.set_cons_succ]
  rfl
 refine take_ (i := 3) (N := some 41) (v := ?_) (a' := ?_) #[true, true, true, true, false, false, false, false, false] rfl rfl (by kernel_rfl) (fun _ _ _ h => h) (Or.inl ⟨by rfl, ?_⟩) (by first | exact hHeld | assumption) ?_ ?_
 rotate_left
 ·rintro w' ⟨s0, s1, s2, s3, s4, s5, s6, s7⟩
  go_simp
  with_reducible rfl
 rotate_left
 ·simp only [Act.put, List.setIfInBounds_toArray, List.set_cons_zero, List.set_cons_succ]
  rfl
 refine pure_ (i := 5) (N := some 43) (v := ?_) (a' := ?_) #[true, true, true, true, false, true, false, false, false] rfl rfl (by kernel_rfl) (fun _ _ _ h => h) (Or.inl ⟨by rfl, ?_⟩) ?_ ?_
 rotate_left
 ·intro w'
  go_simp
  with_reducible rfl
 rotate_left
 ·simp only [Act.put, List.setIfInBounds_toArray, List.set_cons_zero, List.set_cons_succ]
  rfl
 refine one_ (i := 4) (N := some 42) #[true, true, true, true, true, true, false, false, false] rfl rfl (by kernel_rfl) (by decide) (fun K hK => ?_)
 refine call_ 11 #[.pointer (some ⟨g, 0, none⟩), .agg #[.int .i64 x, .int .i64 y, .string s]] (by rfl) rfl (by first | (go_simp; done) | (go_simp; rfl)) ?_
 refine (T_Send ⟨x, y, s⟩ T4.out.drew).mono ?_
 rintro e w6 ⟨rfl, hT6, hkt⟩
 have T6 := Aside0.mk hT6
 have M6 := Aside0.mk ((M4.out.below (below_drew1 (Below.refl w5.heap.size w5))).keepT hkt)
 have O6 := Aside0.mk ((O4.out.below (below_drew1 (Below.refl w5.heap.size w5))).ofT hkt)
 have e5B : w6.heap[b5]? = some (.cells #[.int .i64 kd, .int .i64 x, .int .i64 y, .string s, .int .i64 i1, .int .i64 i2] 45 (0, 0)) := hT6.mem (by simp)
 have e51 := (blk_cell e5B 1).trans rfl
 have e52 := (blk_cell e5B 2).trans rfl
 have e53 := (blk_cell e5B 3).trans rfl
 have e8B : w6.heap[b8]? = some (.cells #[.slice A2 r1.length c2, .slice A3 r2.length c3, .int .i64 r3, .int .i64 r4, .int .i64 r5] 41 (0, 0)) := hT6.mem (by simp)
 have e80 := (blk_cell e8B 0).trans rfl
 have e81 := (blk_cell e8B 1).trans rfl
 have e82 := (blk_cell e8B 2).trans rfl
 have e83 := (blk_cell e8B 3).trans rfl
 have e84 := (blk_cell e8B 4).trans rfl
 refine ⟨_, rfl, hK.out _ _ ⟨e80, e81, e82, e83, e84, e51, e52, e53⟩ (fun hHeld => ?_)⟩
 clear hK K hT6 hkt T4 M4 O4
 refine norm_ (a' := ?_) ?_ ?_
 rotate_left
 ·show Act.put _ (some 42) _ = _
  simp only [Act.put, List.setIfInBounds_toArray, List.set_cons_zero, List.set_cons_succ]
  rfl
 refine pure_ (i := 6) (N := some 44) (v := ?_) (a' := ?_) #[true, true, true, true, true, true, true, false, false] rfl rfl (by kernel_rfl) (fun _ _ _ h => h) (Or.inl ⟨by rfl, ?_⟩) ?_ ?_
 rotate_left
 ·intro w'
  go_simp
  with_reducible rfl
 rotate_left
 ·simp only [Act.put, List.setIfInBounds_toArray, List.set_cons_zero, List.set_cons_succ]
  rfl
 refine last_ (i := 7) (N := none) #[true, true, true, true, true, true, true, true, false] rfl rfl (by kernel_rfl) (by decide) (fun K hK => ?_)
 have z6B : w6.heap[b6]? = some (.cells #[.slice none 0 0, .slice none 0 0, .int .i64 0, .int .i64 0, .int .i64 0] 41 (0, 0)) := T6.out.mem (by simp)
 have z60 := (blk_cell z6B 0).trans rfl
 have f60 := blk_frozen z6B 0
 have z61 := (blk_cell z6B 1).trans rfl
 have f61 := blk_frozen z6B 1
 have z62 := (blk_cell z6B 2).trans rfl
 have f62 := blk_frozen z6B 2
 have z63 := (blk_cell z6B 3).trans rfl
 have f63 := blk_frozen z6B 3
 have z64 := (blk_cell z6B 4).trans rfl
 have f64 := blk_frozen z6B 4
 refine skip_ (w1 := ?_) (by rfl) rfl ?_ ?_
 rotate_left
 ·go_simp
  rfl
 refine hK.out _ _ ?_
 clear hK K
 refine pure_ (i := 8) (N := some 7) (v := ?_) (a' := ?_) #[true, true, true, true, true, true, true, true, true] rfl rfl (by kernel_rfl) (fun _ _ _ h => h) (Or.inl ⟨by rfl, ?_⟩) ?_ ?_
 rotate_left
 ·intro w'
  go_simp
  with_reducible rfl
 rotate_left
 ·simp only [Act.put, List.setIfInBounds_toArray, List.set_cons_zero, List.set_cons_succ]
  rfl
 refine done_ (by kernel_rfl) ?_
 go_wp2
 refine bodyPost_ret (results_ct rfl _ _ b6 41 #[.slice A2 r1.length c2, .slice A3 r2.length c3, .int .i64 r3, .int .i64 r4, .int .i64 r5] (0, 0) _ rfl (set5_at w6 b6 _ _ _ _ _ _ _ _ _ _ z6B) Try.underlying41 rfl (by kernel_rfl)) rfl ?_
 exact ⟨_, _, rfl, M6.out.far z6B (by decide) (by decide) (fun k hk => set5_far w6 b6 _ _ _ _ _ k hk), tr_set5b T6.out (k := b6) (o := .cells #[.slice none 0 0, .slice none 0 0, .int .i64 0, .int .i64 0, .int .i64 0] 41 (0, 0)) (by simp) Lb6.out (fun q hq => by first | exact .tail _ (.tail _ (.tail _ (.tail _ hq))) | exact .tail _ (.tail _ (.tail _ (.tail _ (.tail _ hq))))) (fun q hq => by have := HLT.out q hq; have := Gb6.out; omega) _ _ _ _ _, O6.out.set5 Gb6.out _ _ _ _ _⟩
theorem stowagelaw08_oneT.drop {w0 w : World} {g : Nat} {n : NetS} {u0 u1 : Value} {l0 : List S60} {l1 : List S71} {a2 a3 a4 kd x y i1 i2 : Int} {s : ByteArray} {bs : List (Nat × Obj)} (hbs : ∀ q ∈ bs, NotM q.2) (hT : Tr w0 w g n bs) (hM : MR w w0.heap.size u0 u1 l0 l1) (hk : kd = 2) {r1 : List S60} {r2 : List S71} {r3 r4 r5 : Int} {r6 : Bool} (h : stowageref08_Wires_Drop.f l0 l1 a2 a3 a4 i1 = some (r1, r2, r3, r4, r5, r6)) :
  Calls Try.prog 17 #[.pointer (some ⟨g, 0, none⟩), .agg #[u0, u1, .int .i64 a2, .int .i64 a3, .int .i64 a4], .agg #[.int .i64 kd, .int .i64 x, .int .i64 y, .string s, .int .i64 i1, .int .i64 i2]] w fun e w' => ∃ v0 v1, e = .returned (.tuple #[.agg #[v0, v1, .int .i64 r3, .int .i64 r4, .int .i64 r5], .bool ((n.drop i1).2 == r6)]) ∧ MR w' w0.heap.size v0 v1 r1 r2 ∧ Tr w0 w' g (n.drop i1).1 bs ∧ KeepO w w' := by
 obtain ⟨A0, c0, A1, c1, rfl, rfl⟩ := hM.slices
 have HBS := Aside0.mk hbs
 have HLT : Aside0 (∀ q ∈ bs, q.1 < w.heap.size) := ⟨fun q hq => blk_lt (hT.mem (k := q.1) (o := q.2) hq)⟩
 clear hbs
 have Tw := Aside0.mk hT
 have Mw := Aside0.mk hM
 have Ow := Aside0.mk (KeepO.refl w)
 have HR := Aside0.mk h
 clear hT hM h
 have q0 : (kd == 0) = false := beq_eq_false_iff_ne.mpr (by omega)
 have q1 : (kd == 1) = false := beq_eq_false_iff_ne.mpr (by omega)
 have q2 : (kd == 2) = true := beq_iff_eq.mpr hk
 clear hk
 go_enter Try.func17, Try.ntmps17
 go_wp2_with (first
  | ((with_reducible refine gate_dst (N := 4) rfl ?_); refine box_event ?hg (N := 4) ?hd (cs := #[.slice A0 l0.length c0, .slice A1 l1.length c1, .int .i64 a2, .int .i64 a3, .int .i64 a4]) (t := 41) ?hr ?_; (case hd => rfl); (case hg => rfl); (case hr => first | (go_simp; done) | (go_simp; rfl)); intro b4 hgb4 w1 hbox hb; have Tw1 := Aside0.mk (Tr.box Tw.out hb hgb4 hbox); have Mw1 := Aside0.mk (Mw.out.below hb); have Ow1 := Aside0.mk (Ow.out.below hb); have Gb4 : Aside0 (w.heap.size ≤ b4) := ⟨by rw [hgb4]; exact Ow.out.1⟩; have Lb4 : Aside0 (w0.heap.size ≤ b4) := ⟨by rw [hgb4]; exact Tw.out.1.size⟩; clear Tw Mw Ow hb hbox hgb4)
  | ((with_reducible refine gate_dst (N := 5) rfl ?_); refine box_event ?hg (N := 5) ?hd (cs := #[.int .i64 kd, .int .i64 x, .int .i64 y, .string s, .int .i64 i1, .int .i64 i2]) (t := 45) ?hr ?_; (case hd => rfl); (case hg => rfl); (case hr => first | (go_simp; done) | (go_simp; rfl)); intro b5 hgb5 w2 hbox hb; have Tw2 := Aside0.mk (Tr.box Tw1.out hb hgb5 hbox); have Mw2 := Aside0.mk (Mw1.out.below hb); have Ow2 := Aside0.mk (Ow1.out.below hb); have Gb5 : Aside0 (w.heap.size ≤ b5) := ⟨by rw [hgb5]; exact Ow1.out.1⟩; have Lb5 : Aside0 (w0.heap.size ≤ b5) := ⟨by rw [hgb5]; exact Tw1.out.1.size⟩; clear Tw1 Mw1 Ow1 hb hbox hgb5)
  | ((with_reducible refine gate_dst (N := 6) rfl ?_); refine box_event ?hg (N := 6) ?hd (cs := #[.slice none 0 0, .slice none 0 0, .int .i64 0, .int .i64 0, .int .i64 0]) (t := 41) ?hr ?_; (case hd => rfl); (case hg => rfl); (case hr => first | (go_simp; done) | (go_simp; rfl)); intro b6 hgb6 w3 hbox hb; have Tw3 := Aside0.mk (Tr.box Tw2.out hb hgb6 hbox); have Mw3 := Aside0.mk (Mw2.out.below hb); have Ow3 := Aside0.mk (Ow2.out.below hb); have Gb6 : Aside0 (w.heap.size ≤ b6) := ⟨by rw [hgb6]; exact Ow2.out.1⟩; have Lb6 : Aside0 (w0.heap.size ≤ b6) := ⟨by rw [hgb6]; exact Tw2.out.1.size⟩; have N46 : Aside0 (b4 ≠ b6) := ⟨by rw [hgb6]; exact Nat.ne_of_lt (blk_lt (Tw2.out.mem (k := b4) (o := .cells #[.slice A0 l0.length c0, .slice A1 l1.length c1, .int .i64 a2, .int .i64 a3, .int .i64 a4] 41 (0, 0)) (by simp)))⟩; clear Tw2 Mw2 Ow2 hb hbox hgb6; have d5B : w3.heap[b5]? = some (.cells #[.int .i64 kd, .int .i64 x, .int .i64 y, .string s, .int .i64 i1, .int .i64 i2] 45 (0, 0)) := Tw3.out.mem (by simp); have d50 := (blk_cell d5B 0).trans rfl; have d51 := (blk_cell d5B 1).trans rfl; have d52 := (blk_cell d5B 2).trans rfl; have d53 := (blk_cell d5B 3).trans rfl; have d54 := (blk_cell d5B 4).trans rfl; have d55 := (blk_cell d5B 5).trans rfl; have d4B : w3.heap[b4]? = some (.cells #[.slice A0 l0.length c0, .slice A1 l1.length c1, .int .i64 a2, .int .i64 a3, .int .i64 a4] 41 (0, 0)) := Tw3.out.mem (by simp); have d40 := (blk_cell d4B 0).trans rfl; have d41 := (blk_cell d4B 1).trans rfl; have d42 := (blk_cell d4B 2).trans rfl; have d43 := (blk_cell d4B 3).trans rfl; have d44 := (blk_cell d4B 4).trans rfl))
 refine (R_Drop Tw3.out.1 Mw3.out HR.out).mono ?_
 rintro e w4 ⟨v0, v1, rfl, hM, hk, hB⟩
 obtain ⟨A2, c2, A3, c3, rfl, rfl⟩ := hM.slices
 have T4 := Aside0.mk ((Tr.keptM Tw3.out hk hB (fun q hq => by simp only [List.mem_cons] at hq; rcases hq with rfl | rfl | rfl | hq; exact NotM.of (by decide) (by decide); exact NotM.of (by decide) (by decide); exact NotM.of (by decide) (by decide); exact HBS.out q hq)).push (.cells #[.slice A2 r1.length c2, .slice A3 r2.length c3, .int .i64 r3, .int .i64 r4, .int .i64 r5] 41 (0, 0)))
 have M4 := Aside0.mk (hM.below (below_alloc (Below.refl w4.heap.size w4) (.cells #[.slice A2 r1.length c2, .slice A3 r2.length c3, .int .i64 r3, .int .i64 r4, .int .i64 r5] 41 (0, 0))))
 have O4 := Aside0.mk ((Ow3.out.ofM hk).below (below_alloc (Below.refl w4.heap.size w4) (.cells #[.slice A2 r1.length c2, .slice A3 r2.length c3, .int .i64 r3, .int .i64 r4, .int .i64 r5] 41 (0, 0))))
 clear Tw3 Mw3 Ow3 hM hk hB d4B d40 d41 d42 d43 d44 d5B d50 d51 d52 d53 d54 d55 HR
 go_upto_region 11 with (fail)
 generalize w4.alloc (.cells #[.slice A2 r1.length c2, .slice A3 r2.length c3, .int .i64 r3, .int .i64 r4, .int .i64 r5] 41 (0, 0)) = w5 at T4 M4 O4 ⊢
 generalize w4.heap.size = b8 at T4 ⊢
 have d5B : w5.heap[b5]? = some (.cells #[.int .i64 kd, .int .i64 x, .int .i64 y, .string s, .int .i64 i1, .int .i64 i2] 45 (0, 0)) := T4.out.mem (by simp)
 have d54 := (blk_cell d5B 4).trans rfl
 have d8B : w5.heap[b8]? = some (.cells #[.slice A2 r1.length c2, .slice A3 r2.length c3, .int .i64 r3, .int .i64 r4, .int .i64 r5] 41 (0, 0)) := T4.out.mem (by simp)
 have d80 := (blk_cell d8B 0).trans rfl
 have d81 := (blk_cell d8B 1).trans rfl
 have d82 := (blk_cell d8B 2).trans rfl
 have d83 := (blk_cell d8B 3).trans rfl
 have d84 := (blk_cell d8B 4).trans rfl
 refine start_ (n := 9) (S := (fun w' => w'.cell? ⟨b8, 0, none⟩ = some (.slice A2 r1.length c2) ∧ w'.cell? ⟨b8, 1, none⟩ = some (.slice A3 r2.length c3) ∧ w'.cell? ⟨b8, 2, none⟩ = some (.int .i64 r3) ∧ w'.cell? ⟨b8, 3, none⟩ = some (.int .i64 r4) ∧ w'.cell? ⟨b8, 4, none⟩ = some (.int .i64 r5) ∧ w'.cell? ⟨b5, 4, none⟩ = some (.int .i64 i1))) (ds := [7]) #[false, false, false, false, false, false, false, false, false] (by kernel_rfl) rfl rfl ⟨d80, d81, d82, d83, d84, d54⟩ (fun hHeld => ?_)
 refine take_ (i := 0) (N := some 80) (v := ?_) (a' := ?_) #[true, false, false, false, false, false, false, false, false] rfl rfl (by kernel_rfl) (fun _ _ _ h => h) (Or.inl ⟨by rfl, ?_⟩) (by first | exact hHeld | assumption) ?_ ?_
 rotate_left
 ·rintro w' ⟨s0, s1, s2, s3, s4, s5⟩
  go_simp
  with_reducible rfl
 rotate_left
 ·simp only [Act.put, List.setIfInBounds_toArray, List.set_cons_zero, List.set_cons_succ]
  rfl
 refine pure_ (i := 1) (N := some 81) (v := ?_) (a' := ?_) #[true, true, false, false, false, false, false, false, false] rfl rfl (by kernel_rfl) (fun _ _ _ h => h) (Or.inl ⟨by rfl, ?_⟩) ?_ ?_
 rotate_left
 ·intro w'
  go_simp
  with_reducible rfl
 rotate_left
 ·simp only [Act.put, List.setIfInBounds_toArray, List.set_cons_zero, List.set_cons_succ]
  rfl
 refine pure_ (i := 2) (N := some 82) (v := ?_) (a' := ?_) #[true, true, true, false, false, false, false, false, false] rfl rfl (by kernel_rfl) (fun _ _ _ h => h) (Or.inl ⟨by rfl, ?_⟩) ?_ ?_
 rotate_left
 ·intro w'
  go_simp
  with_reducible rfl
 rotate_left
 ·simp only [Act.put, List.setIfInBounds_toArray, List.set_cons_zero, List.set_cons_succ]
  rfl
 refine take_ (i := 3) (N := some 83) (v := ?_) (a' := ?_) #[true, true, true, true, false, false, false, false, false] rfl rfl (by kernel_rfl) (fun _ _ _ h => h) (Or.inl ⟨by rfl, ?_⟩) (by first | exact hHeld | assumption) ?_ ?_
 rotate_left
 ·rintro w' ⟨s0, s1, s2, s3, s4, s5⟩
  go_simp
  with_reducible rfl
 rotate_left
 ·simp only [Act.put, List.setIfInBounds_toArray, List.set_cons_zero, List.set_cons_succ]
  rfl
 refine pure_ (i := 5) (N := some 85) (v := ?_) (a' := ?_) #[true, true, true, true, false, true, false, false, false] rfl rfl (by kernel_rfl) (fun _ _ _ h => h) (Or.inl ⟨by rfl, ?_⟩) ?_ ?_
 rotate_left
 ·intro w'
  go_simp
  with_reducible rfl
 rotate_left
 ·simp only [Act.put, List.setIfInBounds_toArray, List.set_cons_zero, List.set_cons_succ]
  rfl
 refine one_ (i := 4) (N := some 84) #[true, true, true, true, true, true, false, false, false] rfl rfl (by kernel_rfl) (by decide) (fun K hK => ?_)
 refine call_ 22 #[.pointer (some ⟨g, 0, none⟩), .int .i64 i1] (by rfl) rfl (by first | (go_simp; done) | (go_simp; rfl)) ?_
 refine (T_Drop i1 T4.out.drew).mono ?_
 rintro e w6 ⟨rfl, hT6, hkt⟩
 have T6 := Aside0.mk hT6
 have M6 := Aside0.mk ((M4.out.below (below_drew1 (Below.refl w5.heap.size w5))).keepT hkt)
 have O6 := Aside0.mk ((O4.out.below (below_drew1 (Below.refl w5.heap.size w5))).ofT hkt)
 have e5B : w6.heap[b5]? = some (.cells #[.int .i64 kd, .int .i64 x, .int .i64 y, .string s, .int .i64 i1, .int .i64 i2] 45 (0, 0)) := hT6.mem (by simp)
 have e54 := (blk_cell e5B 4).trans rfl
 have e8B : w6.heap[b8]? = some (.cells #[.slice A2 r1.length c2, .slice A3 r2.length c3, .int .i64 r3, .int .i64 r4, .int .i64 r5] 41 (0, 0)) := hT6.mem (by simp)
 have e80 := (blk_cell e8B 0).trans rfl
 have e81 := (blk_cell e8B 1).trans rfl
 have e82 := (blk_cell e8B 2).trans rfl
 have e83 := (blk_cell e8B 3).trans rfl
 have e84 := (blk_cell e8B 4).trans rfl
 refine ⟨_, rfl, hK.out _ _ ⟨e80, e81, e82, e83, e84, e54⟩ (fun hHeld => ?_)⟩
 clear hK K hT6 hkt T4 M4 O4
 refine norm_ (a' := ?_) ?_ ?_
 rotate_left
 ·show Act.put _ (some 84) _ = _
  simp only [Act.put, List.setIfInBounds_toArray, List.set_cons_zero, List.set_cons_succ]
  rfl
 refine pure_ (i := 6) (N := some 86) (v := ?_) (a' := ?_) #[true, true, true, true, true, true, true, false, false] rfl rfl (by kernel_rfl) (fun _ _ _ h => h) (Or.inl ⟨by rfl, ?_⟩) ?_ ?_
 rotate_left
 ·intro w'
  go_simp
  with_reducible rfl
 rotate_left
 ·simp only [Act.put, List.setIfInBounds_toArray, List.set_cons_zero, List.set_cons_succ]
  rfl
 refine last_ (i := 7) (N := none) #[true, true, true, true, true, true, true, true, false] rfl rfl (by kernel_rfl) (by decide) (fun K hK => ?_)
 have z6B : w6.heap[b6]? = some (.cells #[.slice none 0 0, .slice none 0 0, .int .i64 0, .int .i64 0, .int .i64 0] 41 (0, 0)) := T6.out.mem (by simp)
 have z60 := (blk_cell z6B 0).trans rfl
 have f60 := blk_frozen z6B 0
 have z61 := (blk_cell z6B 1).trans rfl
 have f61 := blk_frozen z6B 1
 have z62 := (blk_cell z6B 2).trans rfl
 have f62 := blk_frozen z6B 2
 have z63 := (blk_cell z6B 3).trans rfl
 have f63 := blk_frozen z6B 3
 have z64 := (blk_cell z6B 4).trans rfl
 have f64 := blk_frozen z6B 4
 refine skip_ (w1 := ?_) (by rfl) rfl ?_ ?_
 rotate_left
 ·go_simp
  rfl
 refine hK.out _ _ ?_
 clear hK K
 refine pure_ (i := 8) (N := some 7) (v := ?_) (a' := ?_) #[true, true, true, true, true, true, true, true, true] rfl rfl (by kernel_rfl) (fun _ _ _ h => h) (Or.inl ⟨by rfl, ?_⟩) ?_ ?_
 rotate_left
 ·intro w'
  go_simp
  with_reducible rfl
 rotate_left
 ·simp only [Act.put, List.setIfInBounds_toArray, List.set_cons_zero, List.set_cons_succ]
  rfl
 refine done_ (by kernel_rfl) ?_
 go_wp2
 refine bodyPost_ret (results_ct rfl _ _ b6 41 #[.slice A2 r1.length c2, .slice A3 r2.length c3, .int .i64 r3, .int .i64 r4, .int .i64 r5] (0, 0) _ rfl (set5_at w6 b6 _ _ _ _ _ _ _ _ _ _ z6B) Try.underlying41 rfl (by kernel_rfl)) rfl ?_
 exact ⟨_, _, rfl, M6.out.far z6B (by decide) (by decide) (fun k hk => set5_far w6 b6 _ _ _ _ _ k hk), tr_set5b T6.out (k := b6) (o := .cells #[.slice none 0 0, .slice none 0 0, .int .i64 0, .int .i64 0, .int .i64 0] 41 (0, 0)) (by simp) Lb6.out (fun q hq => by first | exact .tail _ (.tail _ (.tail _ (.tail _ hq))) | exact .tail _ (.tail _ (.tail _ (.tail _ (.tail _ hq))))) (fun q hq => by have := HLT.out q hq; have := Gb6.out; omega) _ _ _ _ _, O6.out.set5 Gb6.out _ _ _ _ _⟩
theorem stowagelaw08_oneT.double {w0 w : World} {g : Nat} {n : NetS} {u0 u1 : Value} {l0 : List S60} {l1 : List S71} {a2 a3 a4 kd x y i1 i2 : Int} {s : ByteArray} {bs : List (Nat × Obj)} (hbs : ∀ q ∈ bs, NotM q.2) (hT : Tr w0 w g n bs) (hM : MR w w0.heap.size u0 u1 l0 l1) (hk : kd = 3) {r1 : List S60} {r2 : List S71} {r3 r4 r5 : Int} {r6 : Bool} (h : stowageref08_Wires_Double.f l0 l1 a2 a3 a4 i1 = some (r1, r2, r3, r4, r5, r6)) :
  Calls Try.prog 17 #[.pointer (some ⟨g, 0, none⟩), .agg #[u0, u1, .int .i64 a2, .int .i64 a3, .int .i64 a4], .agg #[.int .i64 kd, .int .i64 x, .int .i64 y, .string s, .int .i64 i1, .int .i64 i2]] w fun e w' => ∃ v0 v1, e = .returned (.tuple #[.agg #[v0, v1, .int .i64 r3, .int .i64 r4, .int .i64 r5], .bool ((n.double i1).2 == r6)]) ∧ MR w' w0.heap.size v0 v1 r1 r2 ∧ Tr w0 w' g (n.double i1).1 bs ∧ KeepO w w' := by
 obtain ⟨A0, c0, A1, c1, rfl, rfl⟩ := hM.slices
 have HBS := Aside0.mk hbs
 have HLT : Aside0 (∀ q ∈ bs, q.1 < w.heap.size) := ⟨fun q hq => blk_lt (hT.mem (k := q.1) (o := q.2) hq)⟩
 clear hbs
 have Tw := Aside0.mk hT
 have Mw := Aside0.mk hM
 have Ow := Aside0.mk (KeepO.refl w)
 have HR := Aside0.mk h
 clear hT hM h
 have q0 : (kd == 0) = false := beq_eq_false_iff_ne.mpr (by omega)
 have q1 : (kd == 1) = false := beq_eq_false_iff_ne.mpr (by omega)
 have q2 : (kd == 2) = false := beq_eq_false_iff_ne.mpr (by omega)
 have q3 : (kd == 3) = true := beq_iff_eq.mpr hk
 clear hk
 go_enter Try.func17, Try.ntmps17
 go_wp2_with (first
  | ((with_reducible refine gate_dst (N := 4) rfl ?_); refine box_event ?hg (N := 4) ?hd (cs := #[.slice A0 l0.length c0, .slice A1 l1.length c1, .int .i64 a2, .int .i64 a3, .int .i64 a4]) (t := 41) ?hr ?_; (case hd => rfl); (case hg => rfl); (case hr => first | (go_simp; done) | (go_simp; rfl)); intro b4 hgb4 w1 hbox hb; have Tw1 := Aside0.mk (Tr.box Tw.out hb hgb4 hbox); have Mw1 := Aside0.mk (Mw.out.below hb); have Ow1 := Aside0.mk (Ow.out.below hb); have Gb4 : Aside0 (w.heap.size ≤ b4) := ⟨by rw [hgb4]; exact Ow.out.1⟩; have Lb4 : Aside0 (w0.heap.size ≤ b4) := ⟨by rw [hgb4]; exact Tw.out.1.size⟩; clear Tw Mw Ow hb hbox hgb4)
  | ((with_reducible refine gate_dst (N := 5) rfl ?_); refine box_event ?hg (N := 5) ?hd (cs := #[.int .i64 kd, .int .i64 x, .int .i64 y, .string s, .int .i64 i1, .int .i64 i2]) (t := 45) ?hr ?_; (case hd => rfl); (case hg => rfl); (case hr => first | (go_simp; done) | (go_simp; rfl)); intro b5 hgb5 w2 hbox hb; have Tw2 := Aside0.mk (Tr.box Tw1.out hb hgb5 hbox); have Mw2 := Aside0.mk (Mw1.out.below hb); have Ow2 := Aside0.mk (Ow1.out.below hb); have Gb5 : Aside0 (w.heap.size ≤ b5) := ⟨by rw [hgb5]; exact Ow1.out.1⟩; have Lb5 : Aside0 (w0.heap.size ≤ b5) := ⟨by rw [hgb5]; exact Tw1.out.1.size⟩; clear Tw1 Mw1 Ow1 hb hbox hgb5)
  | ((with_reducible refine gate_dst (N := 6) rfl ?_); refine box_event ?hg (N := 6) ?hd (cs := #[.slice none 0 0, .slice none 0 0, .int .i64 0, .int .i64 0, .int .i64 0]) (t := 41) ?hr ?_; (case hd => rfl); (case hg => rfl); (case hr => first | (go_simp; done) | (go_simp; rfl)); intro b6 hgb6 w3 hbox hb; have Tw3 := Aside0.mk (Tr.box Tw2.out hb hgb6 hbox); have Mw3 := Aside0.mk (Mw2.out.below hb); have Ow3 := Aside0.mk (Ow2.out.below hb); have Gb6 : Aside0 (w.heap.size ≤ b6) := ⟨by rw [hgb6]; exact Ow2.out.1⟩; have Lb6 : Aside0 (w0.heap.size ≤ b6) := ⟨by rw [hgb6]; exact Tw2.out.1.size⟩; have N46 : Aside0 (b4 ≠ b6) := ⟨by rw [hgb6]; exact Nat.ne_of_lt (blk_lt (Tw2.out.mem (k := b4) (o := .cells #[.slice A0 l0.length c0, .slice A1 l1.length c1, .int .i64 a2, .int .i64 a3, .int .i64 a4] 41 (0, 0)) (by simp)))⟩; clear Tw2 Mw2 Ow2 hb hbox hgb6; have d5B : w3.heap[b5]? = some (.cells #[.int .i64 kd, .int .i64 x, .int .i64 y, .string s, .int .i64 i1, .int .i64 i2] 45 (0, 0)) := Tw3.out.mem (by simp); have d50 := (blk_cell d5B 0).trans rfl; have d51 := (blk_cell d5B 1).trans rfl; have d52 := (blk_cell d5B 2).trans rfl; have d53 := (blk_cell d5B 3).trans rfl; have d54 := (blk_cell d5B 4).trans rfl; have d55 := (blk_cell d5B 5).trans rfl; have d4B : w3.heap[b4]? = some (.cells #[.slice A0 l0.length c0, .slice A1 l1.length c1, .int .i64 a2, .int .i64 a3, .int .i64 a4] 41 (0, 0)) := Tw3.out.mem (by simp); have d40 := (blk_cell d4B 0).trans rfl; have d41 := (blk_cell d4B 1).trans rfl; have d42 := (blk_cell d4B 2).trans rfl; have d43 := (blk_cell d4B 3).trans rfl; have d44 := (blk_cell d4B 4).trans rfl))
 refine (R_Double Tw3.out.1 Mw3.out HR.out).mono ?_
 rintro e w4 ⟨v0, v1, rfl, hM, hk, hB⟩
 obtain ⟨A2, c2, A3, c3, rfl, rfl⟩ := hM.slices
 have T4 := Aside0.mk ((Tr.keptM Tw3.out hk hB (fun q hq => by simp only [List.mem_cons] at hq; rcases hq with rfl | rfl | rfl | hq; exact NotM.of (by decide) (by decide); exact NotM.of (by decide) (by decide); exact NotM.of (by decide) (by decide); exact HBS.out q hq)).push (.cells #[.slice A2 r1.length c2, .slice A3 r2.length c3, .int .i64 r3, .int .i64 r4, .int .i64 r5] 41 (0, 0)))
 have M4 := Aside0.mk (hM.below (below_alloc (Below.refl w4.heap.size w4) (.cells #[.slice A2 r1.length c2, .slice A3 r2.length c3, .int .i64 r3, .int .i64 r4, .int .i64 r5] 41 (0, 0))))
 have O4 := Aside0.mk ((Ow3.out.ofM hk).below (below_alloc (Below.refl w4.heap.size w4) (.cells #[.slice A2 r1.length c2, .slice A3 r2.length c3, .int .i64 r3, .int .i64 r4, .int .i64 r5] 41 (0, 0))))
 clear Tw3 Mw3 Ow3 hM hk hB d4B d40 d41 d42 d43 d44 d5B d50 d51 d52 d53 d54 d55 HR
 go_upto_region 14 with (fail)
 generalize w4.alloc (.cells #[.slice A2 r1.length c2, .slice A3 r2.length c3, .int .i64 r3, .int .i64 r4, .int .i64 r5] 41 (0, 0)) = w5 at T4 M4 O4 ⊢
 generalize w4.heap.size = b8 at T4 ⊢
 have d5B : w5.heap[b5]? = some (.cells #[.int .i64 kd, .int .i64 x, .int .i64 y, .string s, .int .i64 i1, .int .i64 i2] 45 (0, 0)) := T4.out.mem (by simp)
 have d54 := (blk_cell d5B 4).trans rfl
 have d8B : w5.heap[b8]? = some (.cells #[.slice A2 r1.length c2, .slice A3 r2.length c3, .int .i64 r3, .int .i64 r4, .int .i64 r5] 41 (0, 0)) := T4.out.mem (by simp)
 have d80 := (blk_cell d8B 0).trans rfl
 have d81 := (blk_cell d8B 1).trans rfl
 have d82 := (blk_cell d8B 2).trans rfl
 have d83 := (blk_cell d8B 3).trans rfl
 have d84 := (blk_cell d8B 4).trans rfl
 refine start_ (n := 9) (S := (fun w' => w'.cell? ⟨b8, 0, none⟩ = some (.slice A2 r1.length c2) ∧ w'.cell? ⟨b8, 1, none⟩ = some (.slice A3 r2.length c3) ∧ w'.cell? ⟨b8, 2, none⟩ = some (.int .i64 r3) ∧ w'.cell? ⟨b8, 3, none⟩ = some (.int .i64 r4) ∧ w'.cell? ⟨b8, 4, none⟩ = some (.int .i64 r5) ∧ w'.cell? ⟨b5, 4, none⟩ = some (.int .i64 i1))) (ds := [7]) #[false, false, false, false, false, false, false, false, false] (by kernel_rfl) rfl rfl ⟨d80, d81, d82, d83, d84, d54⟩ (fun hHeld => ?_)
 refine take_ (i := 0) (N := some 96) (v := ?_) (a' := ?_) #[true, false, false, false, false, false, false, false, false] rfl rfl (by kernel_rfl) (fun _ _ _ h => h) (Or.inl ⟨by rfl, ?_⟩) (by first | exact hHeld | assumption) ?_ ?_
 rotate_left
 ·rintro w' ⟨s0, s1, s2, s3, s4, s5⟩
  go_simp
  with_reducible rfl
 rotate_left
 ·simp only [Act.put, List.setIfInBounds_toArray, List.set_cons_zero, List.set_cons_succ]
  rfl
 refine pure_ (i := 1) (N := some 97) (v := ?_) (a' := ?_) #[true, true, false, false, false, false, false, false, false] rfl rfl (by kernel_rfl) (fun _ _ _ h => h) (Or.inl ⟨by rfl, ?_⟩) ?_ ?_
 rotate_left
 ·intro w'
  go_simp
  with_reducible rfl
 rotate_left
 ·simp only [Act.put, List.setIfInBounds_toArray, List.set_cons_zero, List.set_cons_succ]
  rfl
 refine pure_ (i := 2) (N := some 98) (v := ?_) (a' := ?_) #[true, true, true, false, false, false, false, false, false] rfl rfl (by kernel_rfl) (fun _ _ _ h => h) (Or.inl ⟨by rfl, ?_⟩) ?_ ?_
 rotate_left
 ·intro w'
  go_simp
  with_reducible rfl
 rotate_left
 ·simp only [Act.put, List.setIfInBounds_toArray, List.set_cons_zero, List.set_cons_succ]
  rfl
 refine take_ (i := 3) (N := some 99) (v := ?_) (a' := ?_) #[true, true, true, true, false, false, false, false, false] rfl rfl (by kernel_rfl) (fun _ _ _ h => h) (Or.inl ⟨by rfl, ?_⟩) (by first | exact hHeld | assumption) ?_ ?_
 rotate_left
 ·rintro w' ⟨s0, s1, s2, s3, s4, s5⟩
  go_simp
  with_reducible rfl
 rotate_left
 ·simp only [Act.put, List.setIfInBounds_toArray, List.set_cons_zero, List.set_cons_succ]
  rfl
 refine pure_ (i := 5) (N := some 101) (v := ?_) (a' := ?_) #[true, true, true, true, false, true, false, false, false] rfl rfl (by kernel_rfl) (fun _ _ _ h => h) (Or.inl ⟨by rfl, ?_⟩) ?_ ?_
 rotate_left
 ·intro w'
  go_simp
  with_reducible rfl
 rotate_left
 ·simp only [Act.put, List.setIfInBounds_toArray, List.set_cons_zero, List.set_cons_succ]
  rfl
 refine one_ (i := 4) (N := some 100) #[true, true, true, true, true, true, false, false, false] rfl rfl (by kernel_rfl) (by decide) (fun K hK => ?_)
 refine call_ 12 #[.pointer (some ⟨g, 0, none⟩), .int .i64 i1] (by rfl) rfl (by first | (go_simp; done) | (go_simp; rfl)) ?_
 refine (T_Double i1 T4.out.drew).mono ?_
 rintro e w6 ⟨rfl, hT6, hkt⟩
 have T6 := Aside0.mk hT6
 have M6 := Aside0.mk ((M4.out.below (below_drew1 (Below.refl w5.heap.size w5))).keepT hkt)
 have O6 := Aside0.mk ((O4.out.below (below_drew1 (Below.refl w5.heap.size w5))).ofT hkt)
 have e5B : w6.heap[b5]? = some (.cells #[.int .i64 kd, .int .i64 x, .int .i64 y, .string s, .int .i64 i1, .int .i64 i2] 45 (0, 0)) := hT6.mem (by simp)
 have e54 := (blk_cell e5B 4).trans rfl
 have e8B : w6.heap[b8]? = some (.cells #[.slice A2 r1.length c2, .slice A3 r2.length c3, .int .i64 r3, .int .i64 r4, .int .i64 r5] 41 (0, 0)) := hT6.mem (by simp)
 have e80 := (blk_cell e8B 0).trans rfl
 have e81 := (blk_cell e8B 1).trans rfl
 have e82 := (blk_cell e8B 2).trans rfl
 have e83 := (blk_cell e8B 3).trans rfl
 have e84 := (blk_cell e8B 4).trans rfl
 refine ⟨_, rfl, hK.out _ _ ⟨e80, e81, e82, e83, e84, e54⟩ (fun hHeld => ?_)⟩
 clear hK K hT6 hkt T4 M4 O4
 refine norm_ (a' := ?_) ?_ ?_
 rotate_left
 ·show Act.put _ (some 100) _ = _
  simp only [Act.put, List.setIfInBounds_toArray, List.set_cons_zero, List.set_cons_succ]
  rfl
 refine pure_ (i := 6) (N := some 102) (v := ?_) (a' := ?_) #[true, true, true, true, true, true, true, false, false] rfl rfl (by kernel_rfl) (fun _ _ _ h => h) (Or.inl ⟨by rfl, ?_⟩) ?_ ?_
 rotate_left
 ·intro w'
  go_simp
  with_reducible rfl
 rotate_left
 ·simp only [Act.put, List.setIfInBounds_toArray, List.set_cons_zero, List.set_cons_succ]
  rfl
 refine last_ (i := 7) (N := none) #[true, true, true, true, true, true, true, true, false] rfl rfl (by kernel_rfl) (by decide) (fun K hK => ?_)
 have z6B : w6.heap[b6]? = some (.cells #[.slice none 0 0, .slice none 0 0, .int .i64 0, .int .i64 0, .int .i64 0] 41 (0, 0)) := T6.out.mem (by simp)
 have z60 := (blk_cell z6B 0).trans rfl
 have f60 := blk_frozen z6B 0
 have z61 := (blk_cell z6B 1).trans rfl
 have f61 := blk_frozen z6B 1
 have z62 := (blk_cell z6B 2).trans rfl
 have f62 := blk_frozen z6B 2
 have z63 := (blk_cell z6B 3).trans rfl
 have f63 := blk_frozen z6B 3
 have z64 := (blk_cell z6B 4).trans rfl
 have f64 := blk_frozen z6B 4
 refine skip_ (w1 := ?_) (by rfl) rfl ?_ ?_
 rotate_left
 ·go_simp
  rfl
 refine hK.out _ _ ?_
 clear hK K
 refine pure_ (i := 8) (N := some 7) (v := ?_) (a' := ?_) #[true, true, true, true, true, true, true, true, true] rfl rfl (by kernel_rfl) (fun _ _ _ h => h) (Or.inl ⟨by rfl, ?_⟩) ?_ ?_
 rotate_left
 ·intro w'
  go_simp
  with_reducible rfl
 rotate_left
 ·simp only [Act.put, List.setIfInBounds_toArray, List.set_cons_zero, List.set_cons_succ]
  rfl
 refine done_ (by kernel_rfl) ?_
 go_wp2
 refine bodyPost_ret (results_ct rfl _ _ b6 41 #[.slice A2 r1.length c2, .slice A3 r2.length c3, .int .i64 r3, .int .i64 r4, .int .i64 r5] (0, 0) _ rfl (set5_at w6 b6 _ _ _ _ _ _ _ _ _ _ z6B) Try.underlying41 rfl (by kernel_rfl)) rfl ?_
 exact ⟨_, _, rfl, M6.out.far z6B (by decide) (by decide) (fun k hk => set5_far w6 b6 _ _ _ _ _ k hk), tr_set5b T6.out (k := b6) (o := .cells #[.slice none 0 0, .slice none 0 0, .int .i64 0, .int .i64 0, .int .i64 0] 41 (0, 0)) (by simp) Lb6.out (fun q hq => by first | exact .tail _ (.tail _ (.tail _ (.tail _ hq))) | exact .tail _ (.tail _ (.tail _ (.tail _ (.tail _ hq))))) (fun q hq => by have := HLT.out q hq; have := Gb6.out; omega) _ _ _ _ _, O6.out.set5 Gb6.out _ _ _ _ _⟩
theorem stowagelaw08_oneT.clear {w0 w : World} {g : Nat} {n : NetS} {u0 u1 : Value} {l0 : List S60} {l1 : List S71} {a2 a3 a4 kd x y i1 i2 : Int} {s : ByteArray} {bs : List (Nat × Obj)} (hbs : ∀ q ∈ bs, NotM q.2) (hT : Tr w0 w g n bs) (hM : MR w w0.heap.size u0 u1 l0 l1) (hk : kd = 6) {k : Nat} {r1 : List S60} {r2 : List S71} {r3 r4 r5 r6 : Int} (h : stowageref08_Wires_Clear.f k l0 l1 a2 a3 a4 i1 = some (r1, r2, r3, r4, r5, r6)) :
  Calls Try.prog 17 #[.pointer (some ⟨g, 0, none⟩), .agg #[u0, u1, .int .i64 a2, .int .i64 a3, .int .i64 a4], .agg #[.int .i64 kd, .int .i64 x, .int .i64 y, .string s, .int .i64 i1, .int .i64 i2]] w fun e w' => ∃ v0 v1, e = .returned (.tuple #[.agg #[v0, v1, .int .i64 r3, .int .i64 r4, .int .i64 r5], .bool (((n.l.length : Int) - ((n.l.filter fun x => !(x.f1 == i1)).length : Int)) == r6)]) ∧ MR w' w0.heap.size v0 v1 r1 r2 ∧ Tr w0 w' g (n.lose fun x => x.f1 == i1) bs ∧ KeepO w w' := by
 obtain ⟨A0, c0, A1, c1, rfl, rfl⟩ := hM.slices
 have HBS := Aside0.mk hbs
 have HLT : Aside0 (∀ q ∈ bs, q.1 < w.heap.size) := ⟨fun q hq => blk_lt (hT.mem (k := q.1) (o := q.2) hq)⟩
 clear hbs
 have Tw := Aside0.mk hT
 have Mw := Aside0.mk hM
 have Ow := Aside0.mk (KeepO.refl w)
 have HR := Aside0.mk h
 clear hT hM h
 have q0 : (kd == 0) = false := beq_eq_false_iff_ne.mpr (by omega)
 have q1 : (kd == 1) = false := beq_eq_false_iff_ne.mpr (by omega)
 have q2 : (kd == 2) = false := beq_eq_false_iff_ne.mpr (by omega)
 have q3 : (kd == 3) = false := beq_eq_false_iff_ne.mpr (by omega)
 have q4 : (kd == 4) = false := beq_eq_false_iff_ne.mpr (by omega)
 have q5 : (kd == 5) = false := beq_eq_false_iff_ne.mpr (by omega)
 have q6 : (kd == 6) = true := beq_iff_eq.mpr hk
 clear hk
 go_enter Try.func17, Try.ntmps17
 go_wp2_with (first
  | ((with_reducible refine gate_dst (N := 4) rfl ?_); refine box_event ?hg (N := 4) ?hd (cs := #[.slice A0 l0.length c0, .slice A1 l1.length c1, .int .i64 a2, .int .i64 a3, .int .i64 a4]) (t := 41) ?hr ?_; (case hd => rfl); (case hg => rfl); (case hr => first | (go_simp; done) | (go_simp; rfl)); intro b4 hgb4 w1 hbox hb; have Tw1 := Aside0.mk (Tr.box Tw.out hb hgb4 hbox); have Mw1 := Aside0.mk (Mw.out.below hb); have Ow1 := Aside0.mk (Ow.out.below hb); have Gb4 : Aside0 (w.heap.size ≤ b4) := ⟨by rw [hgb4]; exact Ow.out.1⟩; have Lb4 : Aside0 (w0.heap.size ≤ b4) := ⟨by rw [hgb4]; exact Tw.out.1.size⟩; clear Tw Mw Ow hb hbox hgb4)
  | ((with_reducible refine gate_dst (N := 5) rfl ?_); refine box_event ?hg (N := 5) ?hd (cs := #[.int .i64 kd, .int .i64 x, .int .i64 y, .string s, .int .i64 i1, .int .i64 i2]) (t := 45) ?hr ?_; (case hd => rfl); (case hg => rfl); (case hr => first | (go_simp; done) | (go_simp; rfl)); intro b5 hgb5 w2 hbox hb; have Tw2 := Aside0.mk (Tr.box Tw1.out hb hgb5 hbox); have Mw2 := Aside0.mk (Mw1.out.below hb); have Ow2 := Aside0.mk (Ow1.out.below hb); have Gb5 : Aside0 (w.heap.size ≤ b5) := ⟨by rw [hgb5]; exact Ow1.out.1⟩; have Lb5 : Aside0 (w0.heap.size ≤ b5) := ⟨by rw [hgb5]; exact Tw1.out.1.size⟩; clear Tw1 Mw1 Ow1 hb hbox hgb5)
  | ((with_reducible refine gate_dst (N := 6) rfl ?_); refine box_event ?hg (N := 6) ?hd (cs := #[.slice none 0 0, .slice none 0 0, .int .i64 0, .int .i64 0, .int .i64 0]) (t := 41) ?hr ?_; (case hd => rfl); (case hg => rfl); (case hr => first | (go_simp; done) | (go_simp; rfl)); intro b6 hgb6 w3 hbox hb; have Tw3 := Aside0.mk (Tr.box Tw2.out hb hgb6 hbox); have Mw3 := Aside0.mk (Mw2.out.below hb); have Ow3 := Aside0.mk (Ow2.out.below hb); have Gb6 : Aside0 (w.heap.size ≤ b6) := ⟨by rw [hgb6]; exact Ow2.out.1⟩; have Lb6 : Aside0 (w0.heap.size ≤ b6) := ⟨by rw [hgb6]; exact Tw2.out.1.size⟩; have N46 : Aside0 (b4 ≠ b6) := ⟨by rw [hgb6]; exact Nat.ne_of_lt (blk_lt (Tw2.out.mem (k := b4) (o := .cells #[.slice A0 l0.length c0, .slice A1 l1.length c1, .int .i64 a2, .int .i64 a3, .int .i64 a4] 41 (0, 0)) (by simp)))⟩; clear Tw2 Mw2 Ow2 hb hbox hgb6; have d5B : w3.heap[b5]? = some (.cells #[.int .i64 kd, .int .i64 x, .int .i64 y, .string s, .int .i64 i1, .int .i64 i2] 45 (0, 0)) := Tw3.out.mem (by simp); have d50 := (blk_cell d5B 0).trans rfl; have d51 := (blk_cell d5B 1).trans rfl; have d52 := (blk_cell d5B 2).trans rfl; have d53 := (blk_cell d5B 3).trans rfl; have d54 := (blk_cell d5B 4).trans rfl; have d55 := (blk_cell d5B 5).trans rfl; have d4B : w3.heap[b4]? = some (.cells #[.slice A0 l0.length c0, .slice A1 l1.length c1, .int .i64 a2, .int .i64 a3, .int .i64 a4] 41 (0, 0)) := Tw3.out.mem (by simp); have d40 := (blk_cell d4B 0).trans rfl; have d41 := (blk_cell d4B 1).trans rfl; have d42 := (blk_cell d4B 2).trans rfl; have d43 := (blk_cell d4B 3).trans rfl; have d44 := (blk_cell d4B 4).trans rfl))
 refine (R_Clear Tw3.out.1 Mw3.out HR.out).mono ?_
 rintro e w4 ⟨v0, v1, rfl, hM, hk, hB⟩
 obtain ⟨A2, c2, A3, c3, rfl, rfl⟩ := hM.slices
 have T4 := Aside0.mk ((Tr.keptM Tw3.out hk hB (fun q hq => by simp only [List.mem_cons] at hq; rcases hq with rfl | rfl | rfl | hq; exact NotM.of (by decide) (by decide); exact NotM.of (by decide) (by decide); exact NotM.of (by decide) (by decide); exact HBS.out q hq)).push (.cells #[.slice A2 r1.length c2, .slice A3 r2.length c3, .int .i64 r3, .int .i64 r4, .int .i64 r5] 41 (0, 0)))
 have M4 := Aside0.mk (hM.below (below_alloc (Below.refl w4.heap.size w4) (.cells #[.slice A2 r1.length c2, .slice A3 r2.length c3, .int .i64 r3, .int .i64 r4, .int .i64 r5] 41 (0, 0))))
 have O4 := Aside0.mk ((Ow3.out.ofM hk).below (below_alloc (Below.refl w4.heap.size w4) (.cells #[.slice A2 r1.length c2, .slice A3 r2.length c3, .int .i64 r3, .int .i64 r4, .int .i64 r5] 41 (0, 0))))
 clear Tw3 Mw3 Ow3 hM hk hB d4B d40 d41 d42 d43 d44 d5B d50 d51 d52 d53 d54 d55 HR
 go_upto_region 24 with (fail)
 generalize w4.alloc (.cells #[.slice A2 r1.length c2, .slice A3 r2.length c3, .int .i64 r3, .int .i64 r4, .int .i64 r5] 41 (0, 0)) = w5 at T4 M4 O4 ⊢
 generalize w4.heap.size = b8 at T4 ⊢
 have d5B : w5.heap[b5]? = some (.cells #[.int .i64 kd, .int .i64 x, .int .i64 y, .string s, .int .i64 i1, .int .i64 i2] 45 (0, 0)) := T4.out.mem (by simp)
 have d54 := (blk_cell d5B 4).trans rfl
 have d8B : w5.heap[b8]? = some (.cells #[.slice A2 r1.length c2, .slice A3 r2.length c3, .int .i64 r3, .int .i64 r4, .int .i64 r5] 41 (0, 0)) := T4.out.mem (by simp)
 have d80 := (blk_cell d8B 0).trans rfl
 have d81 := (blk_cell d8B 1).trans rfl
 have d82 := (blk_cell d8B 2).trans rfl
 have d83 := (blk_cell d8B 3).trans rfl
 have d84 := (blk_cell d8B 4).trans rfl
 refine start_ (n := 9) (S := (fun w' => w'.cell? ⟨b8, 0, none⟩ = some (.slice A2 r1.length c2) ∧ w'.cell? ⟨b8, 1, none⟩ = some (.slice A3 r2.length c3) ∧ w'.cell? ⟨b8, 2, none⟩ = some (.int .i64 r3) ∧ w'.cell? ⟨b8, 3, none⟩ = some (.int .i64 r4) ∧ w'.cell? ⟨b8, 4, none⟩ = some (.int .i64 r5) ∧ w'.cell? ⟨b5, 4, none⟩ = some (.int .i64 i1))) (ds := [7]) #[false, false, false, false, false, false, false, false, false] (by kernel_rfl) rfl rfl ⟨d80, d81, d82, d83, d84, d54⟩ (fun hHeld => ?_)
 refine take_ (i := 0) (N := some 138) (v := ?_) (a' := ?_) #[true, false, false, false, false, false, false, false, false] rfl rfl (by kernel_rfl) (fun _ _ _ h => h) (Or.inl ⟨by rfl, ?_⟩) (by first | exact hHeld | assumption) ?_ ?_
 rotate_left
 ·rintro w' ⟨s0, s1, s2, s3, s4, s5⟩
  go_simp
  with_reducible rfl
 rotate_left
 ·simp only [Act.put, List.setIfInBounds_toArray, List.set_cons_zero, List.set_cons_succ]
  rfl
 refine pure_ (i := 1) (N := some 139) (v := ?_) (a' := ?_) #[true, true, false, false, false, false, false, false, false] rfl rfl (by kernel_rfl) (fun _ _ _ h => h) (Or.inl ⟨by rfl, ?_⟩) ?_ ?_
 rotate_left
 ·intro w'
  go_simp
  with_reducible rfl
 rotate_left
 ·simp only [Act.put, List.setIfInBounds_toArray, List.set_cons_zero, List.set_cons_succ]
  rfl
 refine pure_ (i := 2) (N := some 140) (v := ?_) (a' := ?_) #[true, true, true, false, false, false, false, false, false] rfl rfl (by kernel_rfl) (fun _ _ _ h => h) (Or.inl ⟨by rfl, ?_⟩) ?_ ?_
 rotate_left
 ·intro w'
  go_simp
  with_reducible rfl
 rotate_left
 ·simp only [Act.put, List.setIfInBounds_toArray, List.set_cons_zero, List.set_cons_succ]
  rfl
 refine take_ (i := 3) (N := some 141) (v := ?_) (a' := ?_) #[true, true, true, true, false, false, false, false, false] rfl rfl (by kernel_rfl) (fun _ _ _ h => h) (Or.inl ⟨by rfl, ?_⟩) (by first | exact hHeld | assumption) ?_ ?_
 rotate_left
 ·rintro w' ⟨s0, s1, s2, s3, s4, s5⟩
  go_simp
  with_reducible rfl
 rotate_left
 ·simp only [Act.put, List.setIfInBounds_toArray, List.set_cons_zero, List.set_cons_succ]
  rfl
 refine pure_ (i := 5) (N := some 143) (v := ?_) (a' := ?_) #[true, true, true, true, false, true, false, false, false] rfl rfl (by kernel_rfl) (fun _ _ _ h => h) (Or.inl ⟨by rfl, ?_⟩) ?_ ?_
 rotate_left
 ·intro w'
  go_simp
  with_reducible rfl
 rotate_left
 ·simp only [Act.put, List.setIfInBounds_toArray, List.set_cons_zero, List.set_cons_succ]
  rfl
 refine one_ (i := 4) (N := some 142) #[true, true, true, true, true, true, false, false, false] rfl rfl (by kernel_rfl) (by decide) (fun K hK => ?_)
 refine call_ 23 #[.pointer (some ⟨g, 0, none⟩), .int .i64 i1] (by rfl) rfl (by first | (go_simp; done) | (go_simp; rfl)) ?_
 refine (T_Clear i1 T4.out.drew).mono ?_
 rintro e w6 ⟨rfl, hT6, hkt⟩
 have T6 := Aside0.mk hT6
 have M6 := Aside0.mk ((M4.out.below (below_drew1 (Below.refl w5.heap.size w5))).keepT hkt)
 have O6 := Aside0.mk ((O4.out.below (below_drew1 (Below.refl w5.heap.size w5))).ofT hkt)
 have e5B : w6.heap[b5]? = some (.cells #[.int .i64 kd, .int .i64 x, .int .i64 y, .string s, .int .i64 i1, .int .i64 i2] 45 (0, 0)) := hT6.mem (by simp)
 have e54 := (blk_cell e5B 4).trans rfl
 have e8B : w6.heap[b8]? = some (.cells #[.slice A2 r1.length c2, .slice A3 r2.length c3, .int .i64 r3, .int .i64 r4, .int .i64 r5] 41 (0, 0)) := hT6.mem (by simp)
 have e80 := (blk_cell e8B 0).trans rfl
 have e81 := (blk_cell e8B 1).trans rfl
 have e82 := (blk_cell e8B 2).trans rfl
 have e83 := (blk_cell e8B 3).trans rfl
 have e84 := (blk_cell e8B 4).trans rfl
 refine ⟨_, rfl, hK.out _ _ ⟨e80, e81, e82, e83, e84, e54⟩ (fun hHeld => ?_)⟩
 clear hK K hT6 hkt T4 M4 O4
 refine norm_ (a' := ?_) ?_ ?_
 rotate_left
 ·show Act.put _ (some 142) _ = _
  simp only [Act.put, List.setIfInBounds_toArray, List.set_cons_zero, List.set_cons_succ]
  rfl
 refine pure_ (i := 6) (N := some 144) (v := ?_) (a' := ?_) #[true, true, true, true, true, true, true, false, false] rfl rfl (by kernel_rfl) (fun _ _ _ h => h) (Or.inl ⟨by rfl, ?_⟩) ?_ ?_
 rotate_left
 ·intro w'
  go_simp
  with_reducible rfl
 rotate_left
 ·simp only [Act.put, List.setIfInBounds_toArray, List.set_cons_zero, List.set_cons_succ]
  rfl
 refine last_ (i := 7) (N := none) #[true, true, true, true, true, true, true, true, false] rfl rfl (by kernel_rfl) (by decide) (fun K hK => ?_)
 have z6B : w6.heap[b6]? = some (.cells #[.slice none 0 0, .slice none 0 0, .int .i64 0, .int .i64 0, .int .i64 0] 41 (0, 0)) := T6.out.mem (by simp)
 have z60 := (blk_cell z6B 0).trans rfl
 have f60 := blk_frozen z6B 0
 have z61 := (blk_cell z6B 1).trans rfl
 have f61 := blk_frozen z6B 1
 have z62 := (blk_cell z6B 2).trans rfl
 have f62 := blk_frozen z6B 2
 have z63 := (blk_cell z6B 3).trans rfl
 have f63 := blk_frozen z6B 3
 have z64 := (blk_cell z6B 4).trans rfl
 have f64 := blk_frozen z6B 4
 refine skip_ (w1 := ?_) (by rfl) rfl ?_ ?_
 rotate_left
 ·go_simp
  rfl
 refine hK.out _ _ ?_
 clear hK K
 refine pure_ (i := 8) (N := some 7) (v := ?_) (a' := ?_) #[true, true, true, true, true, true, true, true, true] rfl rfl (by kernel_rfl) (fun _ _ _ h => h) (Or.inl ⟨by rfl, ?_⟩) ?_ ?_
 rotate_left
 ·intro w'
  go_simp
  with_reducible rfl
 rotate_left
 ·simp only [Act.put, List.setIfInBounds_toArray, List.set_cons_zero, List.set_cons_succ]
  rfl
 refine done_ (by kernel_rfl) ?_
 go_wp2
 refine bodyPost_ret (results_ct rfl _ _ b6 41 #[.slice A2 r1.length c2, .slice A3 r2.length c3, .int .i64 r3, .int .i64 r4, .int .i64 r5] (0, 0) _ rfl (set5_at w6 b6 _ _ _ _ _ _ _ _ _ _ z6B) Try.underlying41 rfl (by kernel_rfl)) rfl ?_
 exact ⟨_, _, rfl, M6.out.far z6B (by decide) (by decide) (fun k hk => set5_far w6 b6 _ _ _ _ _ k hk), tr_set5b T6.out (k := b6) (o := .cells #[.slice none 0 0, .slice none 0 0, .int .i64 0, .int .i64 0, .int .i64 0] 41 (0, 0)) (by simp) Lb6.out (fun q hq => by first | exact .tail _ (.tail _ (.tail _ (.tail _ hq))) | exact .tail _ (.tail _ (.tail _ (.tail _ (.tail _ hq))))) (fun q hq => by have := HLT.out q hq; have := Gb6.out; omega) _ _ _ _ _, O6.out.set5 Gb6.out _ _ _ _ _⟩
theorem stowagelaw08_oneT.cut {w0 w : World} {g : Nat} {n : NetS} {u0 u1 : Value} {l0 : List S60} {l1 : List S71} {a2 a3 a4 kd x y i1 i2 : Int} {s : ByteArray} {bs : List (Nat × Obj)} (hbs : ∀ q ∈ bs, NotM q.2) (hT : Tr w0 w g n bs) (hM : MR w w0.heap.size u0 u1 l0 l1) (hk : kd = 4) {k : Nat} {r1 : List S60} {r2 : List S71} {r3 r4 r5 r6 : Int} (h : stowageref08_Wires_Cut.f k l0 l1 a2 a3 a4 i1 i2 = some (r1, r2, r3, r4, r5, r6)) :
  Calls Try.prog 17 #[.pointer (some ⟨g, 0, none⟩), .agg #[u0, u1, .int .i64 a2, .int .i64 a3, .int .i64 a4], .agg #[.int .i64 kd, .int .i64 x, .int .i64 y, .string s, .int .i64 i1, .int .i64 i2]] w fun e w' => ∃ v0 v1, e = .returned (.tuple #[.agg #[v0, v1, .int .i64 r3, .int .i64 r4, .int .i64 r5], .bool ((n.cutN i1 i2).2 == r6)]) ∧ MR w' w0.heap.size v0 v1 r1 r2 ∧ Tr w0 w' g (n.cutN i1 i2).1 bs ∧ KeepO w w' := by
 obtain ⟨A0, c0, A1, c1, rfl, rfl⟩ := hM.slices
 have HBS := Aside0.mk hbs
 have HLT : Aside0 (∀ q ∈ bs, q.1 < w.heap.size) := ⟨fun q hq => blk_lt (hT.mem (k := q.1) (o := q.2) hq)⟩
 clear hbs
 have Tw := Aside0.mk hT
 have Mw := Aside0.mk hM
 have Ow := Aside0.mk (KeepO.refl w)
 have HR := Aside0.mk h
 clear hT hM h
 have q0 : (kd == 0) = false := beq_eq_false_iff_ne.mpr (by omega)
 have q1 : (kd == 1) = false := beq_eq_false_iff_ne.mpr (by omega)
 have q2 : (kd == 2) = false := beq_eq_false_iff_ne.mpr (by omega)
 have q3 : (kd == 3) = false := beq_eq_false_iff_ne.mpr (by omega)
 have q4 : (kd == 4) = true := beq_iff_eq.mpr hk
 clear hk
 go_enter Try.func17, Try.ntmps17
 go_wp2_with (first
  | ((with_reducible refine gate_dst (N := 4) rfl ?_); refine box_event ?hg (N := 4) ?hd (cs := #[.slice A0 l0.length c0, .slice A1 l1.length c1, .int .i64 a2, .int .i64 a3, .int .i64 a4]) (t := 41) ?hr ?_; (case hd => rfl); (case hg => rfl); (case hr => first | (go_simp; done) | (go_simp; rfl)); intro b4 hgb4 w1 hbox hb; have Tw1 := Aside0.mk (Tr.box Tw.out hb hgb4 hbox); have Mw1 := Aside0.mk (Mw.out.below hb); have Ow1 := Aside0.mk (Ow.out.below hb); have Gb4 : Aside0 (w.heap.size ≤ b4) := ⟨by rw [hgb4]; exact Ow.out.1⟩; have Lb4 : Aside0 (w0.heap.size ≤ b4) := ⟨by rw [hgb4]; exact Tw.out.1.size⟩; clear Tw Mw Ow hb hbox hgb4)
  | ((with_reducible refine gate_dst (N := 5) rfl ?_); refine box_event ?hg (N := 5) ?hd (cs := #[.int .i64 kd, .int .i64 x, .int .i64 y, .string s, .int .i64 i1, .int .i64 i2]) (t := 45) ?hr ?_; (case hd => rfl); (case hg => rfl); (case hr => first | (go_simp; done) | (go_simp; rfl)); intro b5 hgb5 w2 hbox hb; have Tw2 := Aside0.mk (Tr.box Tw1.out hb hgb5 hbox); have Mw2 := Aside0.mk (Mw1.out.below hb); have Ow2 := Aside0.mk (Ow1.out.below hb); have Gb5 : Aside0 (w.heap.size ≤ b5) := ⟨by rw [hgb5]; exact Ow1.out.1⟩; have Lb5 : Aside0 (w0.heap.size ≤ b5) := ⟨by rw [hgb5]; exact Tw1.out.1.size⟩; clear Tw1 Mw1 Ow1 hb hbox hgb5)
  | ((with_reducible refine gate_dst (N := 6) rfl ?_); refine box_event ?hg (N := 6) ?hd (cs := #[.slice none 0 0, .slice none 0 0, .int .i64 0, .int .i64 0, .int .i64 0]) (t := 41) ?hr ?_; (case hd => rfl); (case hg => rfl); (case hr => first | (go_simp; done) | (go_simp; rfl)); intro b6 hgb6 w3 hbox hb; have Tw3 := Aside0.mk (Tr.box Tw2.out hb hgb6 hbox); have Mw3 := Aside0.mk (Mw2.out.below hb); have Ow3 := Aside0.mk (Ow2.out.below hb); have Gb6 : Aside0 (w.heap.size ≤ b6) := ⟨by rw [hgb6]; exact Ow2.out.1⟩; have Lb6 : Aside0 (w0.heap.size ≤ b6) := ⟨by rw [hgb6]; exact Tw2.out.1.size⟩; have N46 : Aside0 (b4 ≠ b6) := ⟨by rw [hgb6]; exact Nat.ne_of_lt (blk_lt (Tw2.out.mem (k := b4) (o := .cells #[.slice A0 l0.length c0, .slice A1 l1.length c1, .int .i64 a2, .int .i64 a3, .int .i64 a4] 41 (0, 0)) (by simp)))⟩; clear Tw2 Mw2 Ow2 hb hbox hgb6; have d5B : w3.heap[b5]? = some (.cells #[.int .i64 kd, .int .i64 x, .int .i64 y, .string s, .int .i64 i1, .int .i64 i2] 45 (0, 0)) := Tw3.out.mem (by simp); have d50 := (blk_cell d5B 0).trans rfl; have d51 := (blk_cell d5B 1).trans rfl; have d52 := (blk_cell d5B 2).trans rfl; have d53 := (blk_cell d5B 3).trans rfl; have d54 := (blk_cell d5B 4).trans rfl; have d55 := (blk_cell d5B 5).trans rfl; have d4B : w3.heap[b4]? = some (.cells #[.slice A0 l0.length c0, .slice A1 l1.length c1, .int .i64 a2, .int .i64 a3, .int .i64 a4] 41 (0, 0)) := Tw3.out.mem (by simp); have d40 := (blk_cell d4B 0).trans rfl; have d41 := (blk_cell d4B 1).trans rfl; have d42 := (blk_cell d4B 2).trans rfl; have d43 := (blk_cell d4B 3).trans rfl; have d44 := (blk_cell d4B 4).trans rfl))
 refine (R_Cut Tw3.out.1 Mw3.out HR.out).mono ?_
 rintro e w4 ⟨v0, v1, rfl, hM, hk, hB⟩
 obtain ⟨A2, c2, A3, c3, rfl, rfl⟩ := hM.slices
 have T4 := Aside0.mk ((Tr.keptM Tw3.out hk hB (fun q hq => by simp only [List.mem_cons] at hq; rcases hq with rfl | rfl | rfl | hq; exact NotM.of (by decide) (by decide); exact NotM.of (by decide) (by decide); exact NotM.of (by decide) (by decide); exact HBS.out q hq)).push (.cells #[.slice A2 r1.length c2, .slice A3 r2.length c3, .int .i64 r3, .int .i64 r4, .int .i64 r5] 41 (0, 0)))
 have M4 := Aside0.mk (hM.below (below_alloc (Below.refl w4.heap.size w4) (.cells #[.slice A2 r1.length c2, .slice A3 r2.length c3, .int .i64 r3, .int .i64 r4, .int .i64 r5] 41 (0, 0))))
 have O4 := Aside0.mk ((Ow3.out.ofM hk).below (below_alloc (Below.refl w4.heap.size w4) (.cells #[.slice A2 r1.length c2, .slice A3 r2.length c3, .int .i64 r3, .int .i64 r4, .int .i64 r5] 41 (0, 0))))
 clear Tw3 Mw3 Ow3 hM hk hB d4B d40 d41 d42 d43 d44 d5B d50 d51 d52 d53 d54 d55 HR
 go_upto_region 17 with (fail)
 generalize w4.alloc (.cells #[.slice A2 r1.length c2, .slice A3 r2.length c3, .int .i64 r3, .int .i64 r4, .int .i64 r5] 41 (0, 0)) = w5 at T4 M4 O4 ⊢
 generalize w4.heap.size = b8 at T4 ⊢
 have d5B : w5.heap[b5]? = some (.cells #[.int .i64 kd, .int .i64 x, .int .i64 y, .string s, .int .i64 i1, .int .i64 i2] 45 (0, 0)) := T4.out.mem (by simp)
 have d54 := (blk_cell d5B 4).trans rfl
 have d55 := (blk_cell d5B 5).trans rfl
 have d8B : w5.heap[b8]? = some (.cells #[.slice A2 r1.length c2, .slice A3 r2.length c3, .int .i64 r3, .int .i64 r4, .int .i64 r5] 41 (0, 0)) := T4.out.mem (by simp)
 have d80 := (blk_cell d8B 0).trans rfl
 have d81 := (blk_cell d8B 1).trans rfl
 have d82 := (blk_cell d8B 2).trans rfl
 have d83 := (blk_cell d8B 3).trans rfl
 have d84 := (blk_cell d8B 4).trans rfl
 refine start_ (n := 11) (S := (fun w' => w'.cell? ⟨b8, 0, none⟩ = some (.slice A2 r1.length c2) ∧ w'.cell? ⟨b8, 1, none⟩ = some (.slice A3 r2.length c3) ∧ w'.cell? ⟨b8, 2, none⟩ = some (.int .i64 r3) ∧ w'.cell? ⟨b8, 3, none⟩ = some (.int .i64 r4) ∧ w'.cell? ⟨b8, 4, none⟩ = some (.int .i64 r5) ∧ w'.cell? ⟨b5, 4, none⟩ = some (.int .i64 i1) ∧ w'.cell? ⟨b5, 5, none⟩ = some (.int .i64 i2))) (ds := [9]) #[false, false, false, false, false, false, false, false, false, false, false] (by kernel_rfl) rfl rfl ⟨d80, d81, d82, d83, d84, d54, d55⟩ (fun hHeld => ?_)
 refine take_ (i := 0) (N := some 114) (v := ?_) (a' := ?_) #[true, false, false, false, false, false, false, false, false, false, false] rfl rfl (by kernel_rfl) (fun _ _ _ h => h) (Or.inl ⟨by rfl, ?_⟩) (by first | exact hHeld | assumption) ?_ ?_
 rotate_left
 ·rintro w' ⟨s0, s1, s2, s3, s4, s5, s6⟩
  go_simp
  with_reducible rfl
 rotate_left
 ·simp only [Act.put, List.setIfInBounds_toArray, List.set_cons_zero, List.set_cons_succ]
  rfl
 refine pure_ (i := 1) (N := some 115) (v := ?_) (a' := ?_) #[true, true, false, false, false, false, false, false, false, false, false] rfl rfl (by kernel_rfl) (fun _ _ _ h => h) (Or.inl ⟨by rfl, ?_⟩) ?_ ?_
 rotate_left
 ·intro w'
  go_simp
  with_reducible rfl
 rotate_left
 ·simp only [Act.put, List.setIfInBounds_toArray, List.set_cons_zero, List.set_cons_succ]
  rfl
 refine pure_ (i := 2) (N := some 116) (v := ?_) (a' := ?_) #[true, true, true, false, false, false, false, false, false, false, false] rfl rfl (by kernel_rfl) (fun _ _ _ h => h) (Or.inl ⟨by rfl, ?_⟩) ?_ ?_
 rotate_left
 ·intro w'
  go_simp
  with_reducible rfl
 rotate_left
 ·simp only [Act.put, List.setIfInBounds_toArray, List.set_cons_zero, List.set_cons_succ]
  rfl
 refine take_ (i := 3) (N := some 117) (v := ?_) (a' := ?_) #[true, true, true, true, false, false, false, false, false, false, false] rfl rfl (by kernel_rfl) (fun _ _ _ h => h) (Or.inl ⟨by rfl, ?_⟩) (by first | exact hHeld | assumption) ?_ ?_
 rotate_left
 ·rintro w' ⟨s0, s1, s2, s3, s4, s5, s6⟩
  go_simp
  with_reducible rfl
 rotate_left
 ·simp only [Act.put, List.setIfInBounds_toArray, List.set_cons_zero, List.set_cons_succ]
  rfl
 refine pure_ (i := 4) (N := some 118) (v := ?_) (a' := ?_) #[true, true, true, true, true, false, false, false, false, false, false] rfl rfl (by kernel_rfl) (fun _ _ _ h => h) (Or.inl ⟨by rfl, ?_⟩) ?_ ?_
 rotate_left
 ·intro w'
  go_simp
  with_reducible rfl
 rotate_left
 ·simp only [Act.put, List.setIfInBounds_toArray, List.set_cons_zero, List.set_cons_succ]
  rfl
 refine take_ (i := 5) (N := some 119) (v := ?_) (a' := ?_) #[true, true, true, true, true, true, false, false, false, false, false] rfl rfl (by kernel_rfl) (fun _ _ _ h => h) (Or.inl ⟨by rfl, ?_⟩) (by first | exact hHeld | assumption) ?_ ?_
 rotate_left
 ·rintro w' ⟨s0, s1, s2, s3, s4, s5, s6⟩
  go_simp
  with_reducible rfl
 rotate_left
 ·simp only [Act.put, List.setIfInBounds_toArray, List.set_cons_zero, List.set_cons_succ]
  rfl
 refine pure_ (i := 7) (N := some 121) (v := ?_) (a' := ?_) #[true, true, true, true, true, true, false, true, false, false, false] rfl rfl (by kernel_rfl) (fun _ _ _ h => h) (Or.inl ⟨by rfl, ?_⟩) ?_ ?_
 rotate_left
 ·intro w'
  go_simp
  with_reducible rfl
 rotate_left
 ·simp only [Act.put, List.setIfInBounds_toArray, List.set_cons_zero, List.set_cons_succ]
  rfl
 refine one_ (i := 6) (N := some 120) #[true, true, true, true, true, true, true, true, false, false, false] rfl rfl (by kernel_rfl) (by decide) (fun K hK => ?_)
 refine call_ 15 #[.pointer (some ⟨g, 0, none⟩), .int .i64 i1, .int .i64 i2] (by rfl) rfl (by first | (go_simp; done) | (go_simp; rfl)) ?_
 refine (T_Cut i1 i2 T4.out.drew).mono ?_
 rintro e w6 ⟨rfl, hT6, hkt⟩
 have T6 := Aside0.mk hT6
 have M6 := Aside0.mk ((M4.out.below (below_drew1 (Below.refl w5.heap.size w5))).keepT hkt)
 have O6 := Aside0.mk ((O4.out.below (below_drew1 (Below.refl w5.heap.size w5))).ofT hkt)
 have e5B : w6.heap[b5]? = some (.cells #[.int .i64 kd, .int .i64 x, .int .i64 y, .string s, .int .i64 i1, .int .i64 i2] 45 (0, 0)) := hT6.mem (by simp)
 have e54 := (blk_cell e5B 4).trans rfl
 have e55 := (blk_cell e5B 5).trans rfl
 have e8B : w6.heap[b8]? = some (.cells #[.slice A2 r1.length c2, .slice A3 r2.length c3, .int .i64 r3, .int .i64 r4, .int .i64 r5] 41 (0, 0)) := hT6.mem (by simp)
 have e80 := (blk_cell e8B 0).trans rfl
 have e81 := (blk_cell e8B 1).trans rfl
 have e82 := (blk_cell e8B 2).trans rfl
 have e83 := (blk_cell e8B 3).trans rfl
 have e84 := (blk_cell e8B 4).trans rfl
 refine ⟨_, rfl, hK.out _ _ ⟨e80, e81, e82, e83, e84, e54, e55⟩ (fun hHeld => ?_)⟩
 clear hK K hT6 hkt T4 M4 O4
 refine norm_ (a' := ?_) ?_ ?_
 rotate_left
 ·show Act.put _ (some 120) _ = _
  simp only [Act.put, List.setIfInBounds_toArray, List.set_cons_zero, List.set_cons_succ]
  rfl
 refine pure_ (i := 8) (N := some 122) (v := ?_) (a' := ?_) #[true, true, true, true, true, true, true, true, true, false, false] rfl rfl (by kernel_rfl) (fun _ _ _ h => h) (Or.inl ⟨by rfl, ?_⟩) ?_ ?_
 rotate_left
 ·intro w'
  go_simp
  with_reducible rfl
 rotate_left
 ·simp only [Act.put, List.setIfInBounds_toArray, List.set_cons_zero, List.set_cons_succ]
  rfl
 refine last_ (i := 9) (N := none) #[true, true, true, true, true, true, true, true, true, true, false] rfl rfl (by kernel_rfl) (by decide) (fun K hK => ?_)
 have z6B : w6.heap[b6]? = some (.cells #[.slice none 0 0, .slice none 0 0, .int .i64 0, .int .i64 0, .int .i64 0] 41 (0, 0)) := T6.out.mem (by simp)
 have z60 := (blk_cell z6B 0).trans rfl
 have f60 := blk_frozen z6B 0
 have z61 := (blk_cell z6B 1).trans rfl
 have f61 := blk_frozen z6B 1
 have z62 := (blk_cell z6B 2).trans rfl
 have f62 := blk_frozen z6B 2
 have z63 := (blk_cell z6B 3).trans rfl
 have f63 := blk_frozen z6B 3
 have z64 := (blk_cell z6B 4).trans rfl
 have f64 := blk_frozen z6B 4
 refine skip_ (w1 := ?_) (by rfl) rfl ?_ ?_
 rotate_left
 ·go_simp
  rfl
 refine hK.out _ _ ?_
 clear hK K
 refine pure_ (i := 10) (N := some 7) (v := ?_) (a' := ?_) #[true, true, true, true, true, true, true, true, true, true, true] rfl rfl (by kernel_rfl) (fun _ _ _ h => h) (Or.inl ⟨by rfl, ?_⟩) ?_ ?_
 rotate_left
 ·intro w'
  go_simp
  with_reducible rfl
 rotate_left
 ·simp only [Act.put, List.setIfInBounds_toArray, List.set_cons_zero, List.set_cons_succ]
  rfl
 refine done_ (by kernel_rfl) ?_
 go_wp2
 refine bodyPost_ret (results_ct rfl _ _ b6 41 #[.slice A2 r1.length c2, .slice A3 r2.length c3, .int .i64 r3, .int .i64 r4, .int .i64 r5] (0, 0) _ rfl (set5_at w6 b6 _ _ _ _ _ _ _ _ _ _ z6B) Try.underlying41 rfl (by kernel_rfl)) rfl ?_
 exact ⟨_, _, rfl, M6.out.far z6B (by decide) (by decide) (fun k hk => set5_far w6 b6 _ _ _ _ _ k hk), tr_set5b T6.out (k := b6) (o := .cells #[.slice none 0 0, .slice none 0 0, .int .i64 0, .int .i64 0, .int .i64 0] 41 (0, 0)) (by simp) Lb6.out (fun q hq => by first | exact .tail _ (.tail _ (.tail _ (.tail _ hq))) | exact .tail _ (.tail _ (.tail _ (.tail _ (.tail _ hq))))) (fun q hq => by have := HLT.out q hq; have := Gb6.out; omega) _ _ _ _ _, O6.out.set5 Gb6.out _ _ _ _ _⟩
theorem stowagelaw08_oneT.heal {w0 w : World} {g : Nat} {n : NetS} {u0 u1 : Value} {l0 : List S60} {l1 : List S71} {a2 a3 a4 kd x y i1 i2 : Int} {s : ByteArray} {bs : List (Nat × Obj)} (hbs : ∀ q ∈ bs, NotM q.2) (hT : Tr w0 w g n bs) (hM : MR w w0.heap.size u0 u1 l0 l1) (hk : kd = 5) :
  Calls Try.prog 17 #[.pointer (some ⟨g, 0, none⟩), .agg #[u0, u1, .int .i64 a2, .int .i64 a3, .int .i64 a4], .agg #[.int .i64 kd, .int .i64 x, .int .i64 y, .string s, .int .i64 i1, .int .i64 i2]] w fun e w' => ∃ v0 v1, e = .returned (.tuple #[.agg #[v0, v1, .int .i64 a2, .int .i64 a3, .int .i64 a4], .bool true]) ∧ MR w' w0.heap.size v0 v1 l0 [] ∧ Tr w0 w' g { n with cut := List.replicate 49 false } bs ∧ KeepO w w' := by
 obtain ⟨A0, c0, A1, c1, rfl, rfl⟩ := hM.slices
 have HBS := Aside0.mk hbs
 have HLT : Aside0 (∀ q ∈ bs, q.1 < w.heap.size) := ⟨fun q hq => blk_lt (hT.mem (k := q.1) (o := q.2) hq)⟩
 clear hbs
 have Tw := Aside0.mk hT
 have Mw := Aside0.mk hM
 have Ow := Aside0.mk (KeepO.refl w)
 clear hT hM
 have q0 : (kd == 0) = false := beq_eq_false_iff_ne.mpr (by omega)
 have q1 : (kd == 1) = false := beq_eq_false_iff_ne.mpr (by omega)
 have q2 : (kd == 2) = false := beq_eq_false_iff_ne.mpr (by omega)
 have q3 : (kd == 3) = false := beq_eq_false_iff_ne.mpr (by omega)
 have q4 : (kd == 4) = false := beq_eq_false_iff_ne.mpr (by omega)
 have q5 : (kd == 5) = true := beq_iff_eq.mpr hk
 clear hk
 go_enter Try.func17, Try.ntmps17
 go_wp2_with (first
  | ((with_reducible refine gate_dst (N := 4) rfl ?_); refine box_event ?hg (N := 4) ?hd (cs := #[.slice A0 l0.length c0, .slice A1 l1.length c1, .int .i64 a2, .int .i64 a3, .int .i64 a4]) (t := 41) ?hr ?_; (case hd => rfl); (case hg => rfl); (case hr => first | (go_simp; done) | (go_simp; rfl)); intro b4 hgb4 w1 hbox hb; have Tw1 := Aside0.mk (Tr.box Tw.out hb hgb4 hbox); have Mw1 := Aside0.mk (Mw.out.below hb); have Ow1 := Aside0.mk (Ow.out.below hb); have Gb4 : Aside0 (w.heap.size ≤ b4) := ⟨by rw [hgb4]; exact Ow.out.1⟩; have Lb4 : Aside0 (w0.heap.size ≤ b4) := ⟨by rw [hgb4]; exact Tw.out.1.size⟩; clear Tw Mw Ow hb hbox hgb4)
  | ((with_reducible refine gate_dst (N := 5) rfl ?_); refine box_event ?hg (N := 5) ?hd (cs := #[.int .i64 kd, .int .i64 x, .int .i64 y, .string s, .int .i64 i1, .int .i64 i2]) (t := 45) ?hr ?_; (case hd => rfl); (case hg => rfl); (case hr => first | (go_simp; done) | (go_simp; rfl)); intro b5 hgb5 w2 hbox hb; have Tw2 := Aside0.mk (Tr.box Tw1.out hb hgb5 hbox); have Mw2 := Aside0.mk (Mw1.out.below hb); have Ow2 := Aside0.mk (Ow1.out.below hb); have Gb5 : Aside0 (w.heap.size ≤ b5) := ⟨by rw [hgb5]; exact Ow1.out.1⟩; have Lb5 : Aside0 (w0.heap.size ≤ b5) := ⟨by rw [hgb5]; exact Tw1.out.1.size⟩; clear Tw1 Mw1 Ow1 hb hbox hgb5)
  | ((with_reducible refine gate_dst (N := 6) rfl ?_); refine box_event ?hg (N := 6) ?hd (cs := #[.slice none 0 0, .slice none 0 0, .int .i64 0, .int .i64 0, .int .i64 0]) (t := 41) ?hr ?_; (case hd => rfl); (case hg => rfl); (case hr => first | (go_simp; done) | (go_simp; rfl)); intro b6 hgb6 w3 hbox hb; have Tw3 := Aside0.mk (Tr.box Tw2.out hb hgb6 hbox); have Mw3 := Aside0.mk (Mw2.out.below hb); have Ow3 := Aside0.mk (Ow2.out.below hb); have Gb6 : Aside0 (w.heap.size ≤ b6) := ⟨by rw [hgb6]; exact Ow2.out.1⟩; have Lb6 : Aside0 (w0.heap.size ≤ b6) := ⟨by rw [hgb6]; exact Tw2.out.1.size⟩; have N46 : Aside0 (b4 ≠ b6) := ⟨by rw [hgb6]; exact Nat.ne_of_lt (blk_lt (Tw2.out.mem (k := b4) (o := .cells #[.slice A0 l0.length c0, .slice A1 l1.length c1, .int .i64 a2, .int .i64 a3, .int .i64 a4] 41 (0, 0)) (by simp)))⟩; clear Tw2 Mw2 Ow2 hb hbox hgb6; have d5B : w3.heap[b5]? = some (.cells #[.int .i64 kd, .int .i64 x, .int .i64 y, .string s, .int .i64 i1, .int .i64 i2] 45 (0, 0)) := Tw3.out.mem (by simp); have d50 := (blk_cell d5B 0).trans rfl; have d51 := (blk_cell d5B 1).trans rfl; have d52 := (blk_cell d5B 2).trans rfl; have d53 := (blk_cell d5B 3).trans rfl; have d54 := (blk_cell d5B 4).trans rfl; have d55 := (blk_cell d5B 5).trans rfl; have d4B : w3.heap[b4]? = some (.cells #[.slice A0 l0.length c0, .slice A1 l1.length c1, .int .i64 a2, .int .i64 a3, .int .i64 a4] 41 (0, 0)) := Tw3.out.mem (by simp); have d40 := (blk_cell d4B 0).trans rfl; have d41 := (blk_cell d4B 1).trans rfl; have d42 := (blk_cell d4B 2).trans rfl; have d43 := (blk_cell d4B 3).trans rfl; have d44 := (blk_cell d4B 4).trans rfl))
 refine (T_Heal Tw3.out).mono ?_
 rintro e w4 ⟨rfl, hT, hkt⟩
 have T4 := Aside0.mk hT
 have M4 := Aside0.mk (Mw3.out.keepT hkt)
 have O4 := Aside0.mk (Ow3.out.ofT hkt)
 have x4B : w4.heap[b4]? = some (.cells #[.slice A0 l0.length c0, .slice A1 l1.length c1, .int .i64 a2, .int .i64 a3, .int .i64 a4] 41 (0, 0)) := hT.mem (by simp)
 have x6B : w4.heap[b6]? = some (.cells #[.slice none 0 0, .slice none 0 0, .int .i64 0, .int .i64 0, .int .i64 0] 41 (0, 0)) := hT.mem (by simp)
 have x40 := (blk_cell x4B 0).trans rfl
 have x60 := (blk_cell x6B 0).trans rfl
 have f60 := blk_frozen x6B 0
 have x41 := (blk_cell x4B 1).trans rfl
 have x61 := (blk_cell x6B 1).trans rfl
 have f61 := blk_frozen x6B 1
 have x42 := (blk_cell x4B 2).trans rfl
 have x62 := (blk_cell x6B 2).trans rfl
 have f62 := blk_frozen x6B 2
 have x43 := (blk_cell x4B 3).trans rfl
 have x63 := (blk_cell x6B 3).trans rfl
 have f63 := blk_frozen x6B 3
 have x44 := (blk_cell x4B 4).trans rfl
 have x64 := (blk_cell x6B 4).trans rfl
 have f64 := blk_frozen x6B 4
 have f41 := blk_frozen x4B 1
 have n1 := N46.out
 have n2 := Ne.symm N46.out
 clear hT hkt Tw3 Mw3 d4B d40 d41 d42 d43 d44 d5B d50 d51 d52 d53 d54 d55
 go_wp2
 have x6C : (w4.setCell ⟨b4, 1, none⟩ (.slice none 0 0)).heap[b6]? = some (.cells #[.slice none 0 0, .slice none 0 0, .int .i64 0, .int .i64 0, .int .i64 0] 41 (0, 0)) := (Below.heap_setCell _ _ _ _ n2).trans x6B
 refine bodyPost_ret (results_ct rfl _ _ b6 41 #[.slice A0 l0.length c0, .slice none 0 0, .int .i64 a2, .int .i64 a3, .int .i64 a4] (0, 0) _ rfl (set5_at (w4.setCell ⟨b4, 1, none⟩ (.slice none 0 0)) b6 _ _ _ _ _ _ _ _ _ _ x6C) Try.underlying41 rfl (by kernel_rfl)) rfl ?_
 have M5 : MR (w4.setCell ⟨b4, 1, none⟩ (.slice none 0 0)) w0.heap.size (.slice A0 l0.length c0) (.slice A1 l1.length c1) l0 l1 := M4.out.far x4B (by decide) (by decide) (fun k hk => Below.heap_setCell _ _ _ _ hk)
 have M6 := M5.far x6C (by decide) (by decide) (fun k hk => set5_far _ b6 (.slice A0 l0.length c0) (.slice none 0 0) (.int .i64 a2) (.int .i64 a3) (.int .i64 a4) k hk)
 have T5 := T4.out.setB (k := b4) (o := .cells #[.slice A0 l0.length c0, .slice A1 l1.length c1, .int .i64 a2, .int .i64 a3, .int .i64 a4] 41 (0, 0)) (by simp) Lb4.out 1 (.slice none 0 0)
 have m6 : (b6, Obj.cells #[.slice none 0 0, .slice none 0 0, .int .i64 0, .int .i64 0, .int .i64 0] 41 (0, 0)) ∈ ((b6, .cells #[.slice none 0 0, .slice none 0 0, .int .i64 0, .int .i64 0, .int .i64 0] 41 (0, 0)) :: (b5, .cells #[.int .i64 kd, .int .i64 x, .int .i64 y, .string s, .int .i64 i1, .int .i64 i2] 45 (0, 0)) :: (b4, .cells #[.slice A0 l0.length c0, .slice A1 l1.length c1, .int .i64 a2, .int .i64 a3, .int .i64 a4] 41 (0, 0)) :: bs : List (Nat × Obj)).filter fun q => q.1 != b4 := List.mem_filter.2 ⟨by simp, by simpa using n2⟩
 exact ⟨_, _, rfl, ⟨M6.1, Kd.R_nil _ _ _ _ _⟩, tr_set5b T5 m6 Lb6.out (fun q hq => List.mem_filter.2 ⟨.tail _ (.tail _ (.tail _ hq)), by have := HLT.out q hq; have := Gb4.out; have : q.1 ≠ b4 := (by omega); simpa using this⟩) (fun q hq => by have := HLT.out q hq; have := Gb6.out; omega) _ _ _ _ _, (O4.out.set Gb4.out _ _).set5 Gb6.out _ _ _ _ _⟩
theorem stowagelaw08_oneT.at_eq {w0 w : World} {g : Nat} {n : NetS} {u0 u1 : Value} {l0 : List S60} {l1 : List S71} {a2 a3 a4 kd x y i1 i2 : Int} {s : ByteArray} {p : S60} {t : Bool} {bs : List (Nat × Obj)} (hbs : ∀ q ∈ bs, NotM q.2) (hT : Tr w0 w g n bs) (hM : MR w w0.heap.size u0 u1 l0 l1) (hk : kd < 0 ∨ 6 < kd) (h : stowageref08_Wires_At.f l0 l1 a2 a3 a4 i1 = some (p.f0, p.f1, p.f2, t)) (hn : n.at_ i1 = (p, t)) :
  Calls Try.prog 17 #[.pointer (some ⟨g, 0, none⟩), .agg #[u0, u1, .int .i64 a2, .int .i64 a3, .int .i64 a4], .agg #[.int .i64 kd, .int .i64 x, .int .i64 y, .string s, .int .i64 i1, .int .i64 i2]] w fun e w' => ∃ v0 v1, e = .returned (.tuple #[.agg #[v0, v1, .int .i64 a2, .int .i64 a3, .int .i64 a4], .bool true]) ∧ MR w' w0.heap.size v0 v1 l0 l1 ∧ Tr w0 w' g n bs ∧ KeepO w w' := by
 obtain ⟨A0, c0, A1, c1, rfl, rfl⟩ := hM.slices
 have HBS := Aside0.mk hbs
 have HLT : Aside0 (∀ q ∈ bs, q.1 < w.heap.size) := ⟨fun q hq => blk_lt (hT.mem (k := q.1) (o := q.2) hq)⟩
 clear hbs
 have Tw := Aside0.mk hT
 have Mw := Aside0.mk hM
 have Ow := Aside0.mk (KeepO.refl w)
 have HR := Aside0.mk h
 have HN := Aside0.mk hn
 clear hT hM h hn
 have q00 : (kd == 0) = false := beq_eq_false_iff_ne.mpr (by omega)
 have q01 : (kd == 1) = false := beq_eq_false_iff_ne.mpr (by omega)
 have q02 : (kd == 2) = false := beq_eq_false_iff_ne.mpr (by omega)
 have q03 : (kd == 3) = false := beq_eq_false_iff_ne.mpr (by omega)
 have q04 : (kd == 4) = false := beq_eq_false_iff_ne.mpr (by omega)
 have q05 : (kd == 5) = false := beq_eq_false_iff_ne.mpr (by omega)
 have q06 : (kd == 6) = false := beq_eq_false_iff_ne.mpr (by omega)
 clear hk
 go_enter Try.func17, Try.ntmps17
 go_wp2_with (first
  | ((with_reducible refine gate_dst (N := 4) rfl ?_); refine box_event ?hg (N := 4) ?hd (cs := #[.slice A0 l0.length c0, .slice A1 l1.length c1, .int .i64 a2, .int .i64 a3, .int .i64 a4]) (t := 41) ?hr ?_; (case hd => rfl); (case hg => rfl); (case hr => first | (go_simp; done) | (go_simp; rfl)); intro b4 hgb4 w1 hbox hb; have Tw1 := Aside0.mk (Tr.box Tw.out hb hgb4 hbox); have Mw1 := Aside0.mk (Mw.out.below hb); have Ow1 := Aside0.mk (Ow.out.below hb); have Gb4 : Aside0 (w.heap.size ≤ b4) := ⟨by rw [hgb4]; exact Ow.out.1⟩; have Lb4 : Aside0 (w0.heap.size ≤ b4) := ⟨by rw [hgb4]; exact Tw.out.1.size⟩; clear Tw Mw Ow hb hbox hgb4)
  | ((with_reducible refine gate_dst (N := 5) rfl ?_); refine box_event ?hg (N := 5) ?hd (cs := #[.int .i64 kd, .int .i64 x, .int .i64 y, .string s, .int .i64 i1, .int .i64 i2]) (t := 45) ?hr ?_; (case hd => rfl); (case hg => rfl); (case hr => first | (go_simp; done) | (go_simp; rfl)); intro b5 hgb5 w2 hbox hb; have Tw2 := Aside0.mk (Tr.box Tw1.out hb hgb5 hbox); have Mw2 := Aside0.mk (Mw1.out.below hb); have Ow2 := Aside0.mk (Ow1.out.below hb); have Gb5 : Aside0 (w.heap.size ≤ b5) := ⟨by rw [hgb5]; exact Ow1.out.1⟩; have Lb5 : Aside0 (w0.heap.size ≤ b5) := ⟨by rw [hgb5]; exact Tw1.out.1.size⟩; clear Tw1 Mw1 Ow1 hb hbox hgb5)
  | ((with_reducible refine gate_dst (N := 6) rfl ?_); refine box_event ?hg (N := 6) ?hd (cs := #[.slice none 0 0, .slice none 0 0, .int .i64 0, .int .i64 0, .int .i64 0]) (t := 41) ?hr ?_; (case hd => rfl); (case hg => rfl); (case hr => first | (go_simp; done) | (go_simp; rfl)); intro b6 hgb6 w3 hbox hb; have Tw3 := Aside0.mk (Tr.box Tw2.out hb hgb6 hbox); have Mw3 := Aside0.mk (Mw2.out.below hb); have Ow3 := Aside0.mk (Ow2.out.below hb); have Gb6 : Aside0 (w.heap.size ≤ b6) := ⟨by rw [hgb6]; exact Ow2.out.1⟩; have Lb6 : Aside0 (w0.heap.size ≤ b6) := ⟨by rw [hgb6]; exact Tw2.out.1.size⟩; have N46 : Aside0 (b4 ≠ b6) := ⟨by rw [hgb6]; exact Nat.ne_of_lt (blk_lt (Tw2.out.mem (k := b4) (o := .cells #[.slice A0 l0.length c0, .slice A1 l1.length c1, .int .i64 a2, .int .i64 a3, .int .i64 a4] 41 (0, 0)) (by simp)))⟩; clear Tw2 Mw2 Ow2 hb hbox hgb6; have d5B : w3.heap[b5]? = some (.cells #[.int .i64 kd, .int .i64 x, .int .i64 y, .string s, .int .i64 i1, .int .i64 i2] 45 (0, 0)) := Tw3.out.mem (by simp); have d50 := (blk_cell d5B 0).trans rfl; have d51 := (blk_cell d5B 1).trans rfl; have d52 := (blk_cell d5B 2).trans rfl; have d53 := (blk_cell d5B 3).trans rfl; have d54 := (blk_cell d5B 4).trans rfl; have d55 := (blk_cell d5B 5).trans rfl; have d4B : w3.heap[b4]? = some (.cells #[.slice A0 l0.length c0, .slice A1 l1.length c1, .int .i64 a2, .int .i64 a3, .int .i64 a4] 41 (0, 0)) := Tw3.out.mem (by simp); have d40 := (blk_cell d4B 0).trans rfl; have d41 := (blk_cell d4B 1).trans rfl; have d42 := (blk_cell d4B 2).trans rfl; have d43 := (blk_cell d4B 3).trans rfl; have d44 := (blk_cell d4B 4).trans rfl))
 refine (R_At Mw3.out HR.out).mono ?_
 rintro e w4 ⟨rfl, hb⟩
 have T5 := Aside0.mk ((Tw3.out.below hb).push (.cells #[.int .i64 p.f0, .int .i64 p.f1, .string p.f2] 60 (0, 0)))
 have M5 := Aside0.mk ((Mw3.out.below hb).below (below_alloc (Below.refl w4.heap.size w4) (.cells #[.int .i64 p.f0, .int .i64 p.f1, .string p.f2] 60 (0, 0))))
 have O5 := Aside0.mk ((Ow3.out.below hb).below (below_alloc (Below.refl w4.heap.size w4) (.cells #[.int .i64 p.f0, .int .i64 p.f1, .string p.f2] 60 (0, 0))))
 have N23 : Aside0 (w4.heap.size ≠ b6) := ⟨by have := blk_lt ((Tw3.out.below hb).mem (k := b6) (o := .cells #[.slice none 0 0, .slice none 0 0, .int .i64 0, .int .i64 0, .int .i64 0] 41 (0, 0)) (by simp)); omega⟩
 clear Tw3 Mw3 Ow3 hb d4B d40 d41 d42 d43 d44 d5B d50 d51 d52 d53 d54 d55 HR
 go_upto_region 26 with (fail)
 generalize w4.alloc (.cells #[.int .i64 p.f0, .int .i64 p.f1, .string p.f2] 60 (0, 0)) = w5 at T5 M5 O5 ⊢
 generalize w4.heap.size = b23 at T5 N23 ⊢
 have d5B : w5.heap[b5]? = some (.cells #[.int .i64 kd, .int .i64 x, .int .i64 y, .string s, .int .i64 i1, .int .i64 i2] 45 (0, 0)) := T5.out.mem (by simp)
 have d54 := (blk_cell d5B 4).trans rfl
 go_wp2_with (fail)
 refine (T_At i1 T5.out).mono ?_
 rw [HN.out]
 rintro e w6 ⟨rfl, hb⟩
 have T6 := Aside0.mk ((T5.out.below hb).push (.cells #[.int .i64 p.f0, .int .i64 p.f1, .string p.f2] 27 (0, 0)))
 have M6 := Aside0.mk ((M5.out.below hb).below (below_alloc (Below.refl w6.heap.size w6) (.cells #[.int .i64 p.f0, .int .i64 p.f1, .string p.f2] 27 (0, 0))))
 have O6 := Aside0.mk ((O5.out.below hb).below (below_alloc (Below.refl w6.heap.size w6) (.cells #[.int .i64 p.f0, .int .i64 p.f1, .string p.f2] 27 (0, 0))))
 have N25 : Aside0 (w6.heap.size ≠ b6) := ⟨by have := blk_lt ((T5.out.below hb).mem (k := b6) (o := .cells #[.slice none 0 0, .slice none 0 0, .int .i64 0, .int .i64 0, .int .i64 0] 41 (0, 0)) (by simp)); omega⟩
 clear hb T5 M5 O5 d5B d54 HN
 go_upto_region 27 with (fail)
 generalize w6.alloc (.cells #[.int .i64 p.f0, .int .i64 p.f1, .string p.f2] 27 (0, 0)) = w7 at T6 M6 O6 ⊢
 generalize w6.heap.size = b25 at T6 N25 ⊢
 have d8B : w7.heap[b4]? = some (.cells #[.slice A0 l0.length c0, .slice A1 l1.length c1, .int .i64 a2, .int .i64 a3, .int .i64 a4] 41 (0, 0)) := T6.out.mem (by simp)
 have d80 := (blk_cell d8B 0).trans rfl
 have d81 := (blk_cell d8B 1).trans rfl
 have d82 := (blk_cell d8B 2).trans rfl
 have d83 := (blk_cell d8B 3).trans rfl
 have d84 := (blk_cell d8B 4).trans rfl
 have d1B : w7.heap[b23]? = some (.cells #[.int .i64 p.f0, .int .i64 p.f1, .string p.f2] 60 (0, 0)) := T6.out.mem (by simp)
 have d10 := (blk_cell d1B 0).trans rfl
 have d11 := (blk_cell d1B 1).trans rfl
 have d12 := (blk_cell d1B 2).trans rfl
 have d3B : w7.heap[b25]? = some (.cells #[.int .i64 p.f0, .int .i64 p.f1, .string p.f2] 27 (0, 0)) := T6.out.mem (by simp)
 have d30 := (blk_cell d3B 0).trans rfl
 have d31 := (blk_cell d3B 1).trans rfl
 have d32 := (blk_cell d3B 2).trans rfl
 refine start_ (n := 11) (S := (fun w' => w'.cell? ⟨b4, 0, none⟩ = some (.slice A0 l0.length c0) ∧ w'.cell? ⟨b4, 1, none⟩ = some (.slice A1 l1.length c1) ∧ w'.cell? ⟨b4, 2, none⟩ = some (.int .i64 a2) ∧ w'.cell? ⟨b4, 3, none⟩ = some (.int .i64 a3) ∧ w'.cell? ⟨b4, 4, none⟩ = some (.int .i64 a4) ∧ w'.cell? ⟨b23, 0, none⟩ = some (.int .i64 p.f0) ∧ w'.cell? ⟨b23, 1, none⟩ = some (.int .i64 p.f1) ∧ w'.cell? ⟨b23, 2, none⟩ = some (.string p.f2) ∧ w'.cell? ⟨b25, 0, none⟩ = some (.int .i64 p.f0) ∧ w'.cell? ⟨b25, 1, none⟩ = some (.int .i64 p.f1) ∧ w'.cell? ⟨b25, 2, none⟩ = some (.string p.f2))) (ds := []) #[false, false, false, false, false, false, false, false, false, false, false] (by kernel_rfl) rfl rfl ⟨d80, d81, d82, d83, d84, d10, d11, d12, d30, d31, d32⟩ (fun hHeld => ?_)
 have T8 := Aside0.mk T6.out.drew
 have M8 := Aside0.mk (M6.out.below (below_drew1 (Below.refl w7.heap.size w7)))
 have O8 := Aside0.mk (O6.out.below (below_drew1 (Below.refl w7.heap.size w7)))
 clear T6 M6 O6 d80 d81 d82 d83 d84 d10 d11 d12 d30 d31 d32 d8B d1B d3B
 generalize w7.drew = w8 at T8 M8 O8 hHeld ⊢
 refine take_ (i := 0) (N := some 159) (v := ?_) (a' := ?_) #[true, false, false, false, false, false, false, false, false, false, false] rfl rfl (by kernel_rfl) (fun _ _ _ h => h) (Or.inl ⟨by rfl, ?_⟩) (by first | exact hHeld | assumption) ?_ ?_
 rotate_left
 ·rintro w' ⟨s0, s1, s2, s3, s4, s5, s6, s7, s8, s9, s10⟩
  go_simp
  with_reducible rfl
 rotate_left
 ·simp only [Act.put, List.setIfInBounds_toArray, List.set_cons_zero, List.set_cons_succ]
  rfl
 refine pure_ (i := 1) (N := some 160) (v := ?_) (a' := ?_) #[true, true, false, false, false, false, false, false, false, false, false] rfl rfl (by kernel_rfl) (fun _ _ _ h => h) (Or.inl ⟨by rfl, ?_⟩) ?_ ?_
 rotate_left
 ·intro w'
  go_simp
  with_reducible rfl
 rotate_left
 ·simp only [Act.put, List.setIfInBounds_toArray, List.set_cons_zero, List.set_cons_succ]
  rfl
 refine pure_ (i := 2) (N := some 161) (v := ?_) (a' := ?_) #[true, true, true, false, false, false, false, false, false, false, false] rfl rfl (by kernel_rfl) (fun _ _ _ h => h) (Or.inl ⟨by rfl, ?_⟩) ?_ ?_
 rotate_left
 ·intro w'
  go_simp
  with_reducible rfl
 rotate_left
 ·simp only [Act.put, List.setIfInBounds_toArray, List.set_cons_zero, List.set_cons_succ]
  rfl
 refine pure_ (i := 3) (N := some 162) (v := ?_) (a' := ?_) #[true, true, true, true, false, false, false, false, false, false, false] rfl rfl (by kernel_rfl) (fun _ _ _ h => h) (Or.inl ⟨by rfl, ?_⟩) ?_ ?_
 rotate_left
 ·intro w'
  go_simp
  with_reducible rfl
 rotate_left
 ·simp only [Act.put, List.setIfInBounds_toArray, List.set_cons_zero, List.set_cons_succ]
  rfl
 refine pure_ (i := 4) (N := some 163) (v := ?_) (a' := ?_) #[true, true, true, true, true, false, false, false, false, false, false] rfl rfl (by kernel_rfl) (fun _ _ _ h => h) (Or.inl ⟨by rfl, ?_⟩) ?_ ?_
 rotate_left
 ·intro w'
  go_simp
  with_reducible rfl
 rotate_left
 ·simp only [Act.put, List.setIfInBounds_toArray, List.set_cons_zero, List.set_cons_succ]
  rfl
 refine take_ (i := 5) (N := some 164) (v := ?_) (a' := ?_) #[true, true, true, true, true, true, false, false, false, false, false] rfl rfl (by kernel_rfl) (fun _ _ _ h => h) (Or.inl ⟨by rfl, ?_⟩) (by first | exact hHeld | assumption) ?_ ?_
 rotate_left
 ·rintro w' ⟨s0, s1, s2, s3, s4, s5, s6, s7, s8, s9, s10⟩
  go_simp
  with_reducible rfl
 rotate_left
 ·simp only [Act.put, List.setIfInBounds_toArray, List.set_cons_zero, List.set_cons_succ]
  rfl
 refine take_ (i := 6) (N := some 165) (v := ?_) (a' := ?_) #[true, true, true, true, true, true, true, false, false, false, false] rfl rfl (by kernel_rfl) (fun _ _ _ h => h) (Or.inl ⟨by rfl, ?_⟩) (by first | exact hHeld | assumption) ?_ ?_
 rotate_left
 ·rintro w' ⟨s0, s1, s2, s3, s4, s5, s6, s7, s8, s9, s10⟩
  go_simp
  with_reducible rfl
 rotate_left
 ·simp only [Act.put, List.setIfInBounds_toArray, List.set_cons_zero, List.set_cons_succ]
  rfl
 refine pure_ (i := 7) (N := some 166) (v := ?_) (a' := ?_) #[true, true, true, true, true, true, true, true, false, false, false] rfl rfl (by kernel_rfl) (fun _ _ _ h => h) (Or.inl ⟨by rfl, ?_⟩) ?_ ?_
 rotate_left
 ·intro w'
  go_simp
  with_reducible rfl
 rotate_left
 ·simp only [Act.put, List.setIfInBounds_toArray, List.set_cons_zero, List.set_cons_succ]
  rfl
 refine pure_ (i := 8) (N := some 167) (v := ?_) (a' := ?_) #[true, true, true, true, true, true, true, true, true, false, false] rfl rfl (by kernel_rfl) (fun _ _ _ h => h) (Or.inl ⟨by rfl, ?_⟩) ?_ ?_
 rotate_left
 ·intro w'
  go_simp
  with_reducible rfl
 rotate_left
 ·simp only [Act.put, List.setIfInBounds_toArray, List.set_cons_zero, List.set_cons_succ]
  rfl
 refine one_ (i := 9) (N := none) #[true, true, true, true, true, true, true, true, true, true, false] rfl rfl (by kernel_rfl) (by decide) (fun K hK => ?_)
 have z6B : w8.heap[b6]? = some (.cells #[.slice none 0 0, .slice none 0 0, .int .i64 0, .int .i64 0, .int .i64 0] 41 (0, 0)) := T8.out.mem (by simp)
 have yb4B : w8.heap[b4]? = some (.cells #[.slice A0 l0.length c0, .slice A1 l1.length c1, .int .i64 a2, .int .i64 a3, .int .i64 a4] 41 (0, 0)) := T8.out.mem (by simp)
 have yb23B : w8.heap[b23]? = some (.cells #[.int .i64 p.f0, .int .i64 p.f1, .string p.f2] 60 (0, 0)) := T8.out.mem (by simp)
 have yb25B : w8.heap[b25]? = some (.cells #[.int .i64 p.f0, .int .i64 p.f1, .string p.f2] 27 (0, 0)) := T8.out.mem (by simp)
 have z60 := (blk_cell z6B 0).trans rfl
 have f60 := blk_frozen z6B 0
 have z61 := (blk_cell z6B 1).trans rfl
 have f61 := blk_frozen z6B 1
 have z62 := (blk_cell z6B 2).trans rfl
 have f62 := blk_frozen z6B 2
 have z63 := (blk_cell z6B 3).trans rfl
 have f63 := blk_frozen z6B 3
 have z64 := (blk_cell z6B 4).trans rfl
 have f64 := blk_frozen z6B 4
 refine skip_ (w1 := ?_) (by rfl) rfl ?_ ?_
 rotate_left
 ·go_simp
  rfl
 refine hK.out _ _ ⟨(blk_cell ((set5_far w8 b6 _ _ _ _ _ b4 N46.out).trans yb4B) 0).trans rfl, (blk_cell ((set5_far w8 b6 _ _ _ _ _ b4 N46.out).trans yb4B) 1).trans rfl, (blk_cell ((set5_far w8 b6 _ _ _ _ _ b4 N46.out).trans yb4B) 2).trans rfl, (blk_cell ((set5_far w8 b6 _ _ _ _ _ b4 N46.out).trans yb4B) 3).trans rfl, (blk_cell ((set5_far w8 b6 _ _ _ _ _ b4 N46.out).trans yb4B) 4).trans rfl, (blk_cell ((set5_far w8 b6 _ _ _ _ _ b23 N23.out).trans yb23B) 0).trans rfl, (blk_cell ((set5_far w8 b6 _ _ _ _ _ b23 N23.out).trans yb23B) 1).trans rfl, (blk_cell ((set5_far w8 b6 _ _ _ _ _ b23 N23.out).trans yb23B) 2).trans rfl, (blk_cell ((set5_far w8 b6 _ _ _ _ _ b25 N25.out).trans yb25B) 0).trans rfl, (blk_cell ((set5_far w8 b6 _ _ _ _ _ b25 N25.out).trans yb25B) 1).trans rfl, (blk_cell ((set5_far w8 b6 _ _ _ _ _ b25 N25.out).trans yb25B) 2).trans rfl⟩ (fun hHeld => ?_)
 clear hK K
 refine pure_ (i := 10) (N := some 7) (v := ?_) (a' := ?_) #[true, true, true, true, true, true, true, true, true, true, true] rfl rfl (by kernel_rfl) (fun _ _ _ h => h) (Or.inl ⟨by rfl, ?_⟩) ?_ ?_
 rotate_left
 ·intro w'
  go_simp
  with_reducible rfl
 rotate_left
 ·simp only [Act.put, List.setIfInBounds_toArray, List.set_cons_zero, List.set_cons_succ]
  rfl
 refine done_ (by kernel_rfl) ?_
 go_wp2
 refine bodyPost_ret (results_ct rfl _ _ b6 41 #[.slice A0 l0.length c0, .slice A1 l1.length c1, .int .i64 a2, .int .i64 a3, .int .i64 a4] (0, 0) _ rfl (set5_at w8 b6 _ _ _ _ _ _ _ _ _ _ z6B) Try.underlying41 rfl (by kernel_rfl)) rfl ?_
 exact ⟨_, _, rfl, M8.out.far z6B (by decide) (by decide) (fun k hk => set5_far w8 b6 _ _ _ _ _ k hk), tr_set5b T8.out (k := b6) (o := .cells #[.slice none 0 0, .slice none 0 0, .int .i64 0, .int .i64 0, .int .i64 0] 41 (0, 0)) (by simp) Lb6.out (fun q hq => by first | exact .tail _ (.tail _ (.tail _ (.tail _ hq))) | exact .tail _ (.tail _ (.tail _ (.tail _ (.tail _ hq))))) (fun q hq => by have := HLT.out q hq; have := Gb6.out; omega) _ _ _ _ _, O8.out.set5 Gb6.out _ _ _ _ _⟩
theorem stowagelaw08_oneT.at_ne {w0 w : World} {g : Nat} {n : NetS} {u0 u1 : Value} {l0 : List S60} {l1 : List S71} {a2 a3 a4 kd x y i1 i2 : Int} {s : ByteArray} {p : S60}  {bs : List (Nat × Obj)} (hbs : ∀ q ∈ bs, NotM q.2) (hT : Tr w0 w g n bs) (hM : MR w w0.heap.size u0 u1 l0 l1) (hk : kd < 0 ∨ 6 < kd) {q1 q2 : Int} {q3 : ByteArray} (h : stowageref08_Wires_At.f l0 l1 a2 a3 a4 i1 = some (q1, q2, q3, false)) (hn : n.at_ i1 = (p, true)) :
  Calls Try.prog 17 #[.pointer (some ⟨g, 0, none⟩), .agg #[u0, u1, .int .i64 a2, .int .i64 a3, .int .i64 a4], .agg #[.int .i64 kd, .int .i64 x, .int .i64 y, .string s, .int .i64 i1, .int .i64 i2]] w fun e w' => ∃ v0 v1, e = .returned (.tuple #[.agg #[v0, v1, .int .i64 a2, .int .i64 a3, .int .i64 a4], .bool false]) ∧ MR w' w0.heap.size v0 v1 l0 l1 ∧ Tr w0 w' g n bs ∧ KeepO w w' := by
 obtain ⟨A0, c0, A1, c1, rfl, rfl⟩ := hM.slices
 have HBS := Aside0.mk hbs
 have HLT : Aside0 (∀ q ∈ bs, q.1 < w.heap.size) := ⟨fun q hq => blk_lt (hT.mem (k := q.1) (o := q.2) hq)⟩
 clear hbs
 have Tw := Aside0.mk hT
 have Mw := Aside0.mk hM
 have Ow := Aside0.mk (KeepO.refl w)
 have HR := Aside0.mk h
 have HN := Aside0.mk hn
 clear hT hM h hn
 have q00 : (kd == 0) = false := beq_eq_false_iff_ne.mpr (by omega)
 have q01 : (kd == 1) = false := beq_eq_false_iff_ne.mpr (by omega)
 have q02 : (kd == 2) = false := beq_eq_false_iff_ne.mpr (by omega)
 have q03 : (kd == 3) = false := beq_eq_false_iff_ne.mpr (by omega)
 have q04 : (kd == 4) = false := beq_eq_false_iff_ne.mpr (by omega)
 have q05 : (kd == 5) = false := beq_eq_false_iff_ne.mpr (by omega)
 have q06 : (kd == 6) = false := beq_eq_false_iff_ne.mpr (by omega)
 clear hk
 go_enter Try.func17, Try.ntmps17
 go_wp2_with (first
  | ((with_reducible refine gate_dst (N := 4) rfl ?_); refine box_event ?hg (N := 4) ?hd (cs := #[.slice A0 l0.length c0, .slice A1 l1.length c1, .int .i64 a2, .int .i64 a3, .int .i64 a4]) (t := 41) ?hr ?_; (case hd => rfl); (case hg => rfl); (case hr => first | (go_simp; done) | (go_simp; rfl)); intro b4 hgb4 w1 hbox hb; have Tw1 := Aside0.mk (Tr.box Tw.out hb hgb4 hbox); have Mw1 := Aside0.mk (Mw.out.below hb); have Ow1 := Aside0.mk (Ow.out.below hb); have Gb4 : Aside0 (w.heap.size ≤ b4) := ⟨by rw [hgb4]; exact Ow.out.1⟩; have Lb4 : Aside0 (w0.heap.size ≤ b4) := ⟨by rw [hgb4]; exact Tw.out.1.size⟩; clear Tw Mw Ow hb hbox hgb4)
  | ((with_reducible refine gate_dst (N := 5) rfl ?_); refine box_event ?hg (N := 5) ?hd (cs := #[.int .i64 kd, .int .i64 x, .int .i64 y, .string s, .int .i64 i1, .int .i64 i2]) (t := 45) ?hr ?_; (case hd => rfl); (case hg => rfl); (case hr => first | (go_simp; done) | (go_simp; rfl)); intro b5 hgb5 w2 hbox hb; have Tw2 := Aside0.mk (Tr.box Tw1.out hb hgb5 hbox); have Mw2 := Aside0.mk (Mw1.out.below hb); have Ow2 := Aside0.mk (Ow1.out.below hb); have Gb5 : Aside0 (w.heap.size ≤ b5) := ⟨by rw [hgb5]; exact Ow1.out.1⟩; have Lb5 : Aside0 (w0.heap.size ≤ b5) := ⟨by rw [hgb5]; exact Tw1.out.1.size⟩; clear Tw1 Mw1 Ow1 hb hbox hgb5)
  | ((with_reducible refine gate_dst (N := 6) rfl ?_); refine box_event ?hg (N := 6) ?hd (cs := #[.slice none 0 0, .slice none 0 0, .int .i64 0, .int .i64 0, .int .i64 0]) (t := 41) ?hr ?_; (case hd => rfl); (case hg => rfl); (case hr => first | (go_simp; done) | (go_simp; rfl)); intro b6 hgb6 w3 hbox hb; have Tw3 := Aside0.mk (Tr.box Tw2.out hb hgb6 hbox); have Mw3 := Aside0.mk (Mw2.out.below hb); have Ow3 := Aside0.mk (Ow2.out.below hb); have Gb6 : Aside0 (w.heap.size ≤ b6) := ⟨by rw [hgb6]; exact Ow2.out.1⟩; have Lb6 : Aside0 (w0.heap.size ≤ b6) := ⟨by rw [hgb6]; exact Tw2.out.1.size⟩; have N46 : Aside0 (b4 ≠ b6) := ⟨by rw [hgb6]; exact Nat.ne_of_lt (blk_lt (Tw2.out.mem (k := b4) (o := .cells #[.slice A0 l0.length c0, .slice A1 l1.length c1, .int .i64 a2, .int .i64 a3, .int .i64 a4] 41 (0, 0)) (by simp)))⟩; clear Tw2 Mw2 Ow2 hb hbox hgb6; have d5B : w3.heap[b5]? = some (.cells #[.int .i64 kd, .int .i64 x, .int .i64 y, .string s, .int .i64 i1, .int .i64 i2] 45 (0, 0)) := Tw3.out.mem (by simp); have d50 := (blk_cell d5B 0).trans rfl; have d51 := (blk_cell d5B 1).trans rfl; have d52 := (blk_cell d5B 2).trans rfl; have d53 := (blk_cell d5B 3).trans rfl; have d54 := (blk_cell d5B 4).trans rfl; have d55 := (blk_cell d5B 5).trans rfl; have d4B : w3.heap[b4]? = some (.cells #[.slice A0 l0.length c0, .slice A1 l1.length c1, .int .i64 a2, .int .i64 a3, .int .i64 a4] 41 (0, 0)) := Tw3.out.mem (by simp); have d40 := (blk_cell d4B 0).trans rfl; have d41 := (blk_cell d4B 1).trans rfl; have d42 := (blk_cell d4B 2).trans rfl; have d43 := (blk_cell d4B 3).trans rfl; have d44 := (blk_cell d4B 4).trans rfl))
 refine (R_At Mw3.out HR.out).mono ?_
 rintro e w4 ⟨rfl, hb⟩
 have T5 := Aside0.mk ((Tw3.out.below hb).push (.cells #[.int .i64 q1, .int .i64 q2, .string q3] 60 (0, 0)))
 have M5 := Aside0.mk ((Mw3.out.below hb).below (below_alloc (Below.refl w4.heap.size w4) (.cells #[.int .i64 q1, .int .i64 q2, .string q3] 60 (0, 0))))
 have O5 := Aside0.mk ((Ow3.out.below hb).below (below_alloc (Below.refl w4.heap.size w4) (.cells #[.int .i64 q1, .int .i64 q2, .string q3] 60 (0, 0))))
 have N23 : Aside0 (w4.heap.size ≠ b6) := ⟨by have := blk_lt ((Tw3.out.below hb).mem (k := b6) (o := .cells #[.slice none 0 0, .slice none 0 0, .int .i64 0, .int .i64 0, .int .i64 0] 41 (0, 0)) (by simp)); omega⟩
 clear Tw3 Mw3 Ow3 hb d4B d40 d41 d42 d43 d44 d5B d50 d51 d52 d53 d54 d55 HR
 go_upto_region 26 with (fail)
 generalize w4.alloc (.cells #[.int .i64 q1, .int .i64 q2, .string q3] 60 (0, 0)) = w5 at T5 M5 O5 ⊢
 generalize w4.heap.size = b23 at T5 N23 ⊢
 have d5B : w5.heap[b5]? = some (.cells #[.int .i64 kd, .int .i64 x, .int .i64 y, .string s, .int .i64 i1, .int .i64 i2] 45 (0, 0)) := T5.out.mem (by simp)
 have d54 := (blk_cell d5B 4).trans rfl
 go_wp2_with (fail)
 refine (T_At i1 T5.out).mono ?_
 rw [HN.out]
 rintro e w6 ⟨rfl, hb⟩
 have T6 := Aside0.mk ((T5.out.below hb).push (.cells #[.int .i64 p.f0, .int .i64 p.f1, .string p.f2] 27 (0, 0)))
 have M6 := Aside0.mk ((M5.out.below hb).below (below_alloc (Below.refl w6.heap.size w6) (.cells #[.int .i64 p.f0, .int .i64 p.f1, .string p.f2] 27 (0, 0))))
 have O6 := Aside0.mk ((O5.out.below hb).below (below_alloc (Below.refl w6.heap.size w6) (.cells #[.int .i64 p.f0, .int .i64 p.f1, .string p.f2] 27 (0, 0))))
 have N25 : Aside0 (w6.heap.size ≠ b6) := ⟨by have := blk_lt ((T5.out.below hb).mem (k := b6) (o := .cells #[.slice none 0 0, .slice none 0 0, .int .i64 0, .int .i64 0, .int .i64 0] 41 (0, 0)) (by simp)); omega⟩
 clear hb T5 M5 O5 d5B d54 HN
 go_upto_region 27 with (fail)
 generalize w6.alloc (.cells #[.int .i64 p.f0, .int .i64 p.f1, .string p.f2] 27 (0, 0)) = w7 at T6 M6 O6 ⊢
 generalize w6.heap.size = b25 at T6 N25 ⊢
 have d8B : w7.heap[b4]? = some (.cells #[.slice A0 l0.length c0, .slice A1 l1.length c1, .int .i64 a2, .int .i64 a3, .int .i64 a4] 41 (0, 0)) := T6.out.mem (by simp)
 have d80 := (blk_cell d8B 0).trans rfl
 have d81 := (blk_cell d8B 1).trans rfl
 have d82 := (blk_cell d8B 2).trans rfl
 have d83 := (blk_cell d8B 3).trans rfl
 have d84 := (blk_cell d8B 4).trans rfl
 have d1B : w7.heap[b23]? = some (.cells #[.int .i64 q1, .int .i64 q2, .string q3] 60 (0, 0)) := T6.out.mem (by simp)
 have d10 := (blk_cell d1B 0).trans rfl
 have d11 := (blk_cell d1B 1).trans rfl
 have d12 := (blk_cell d1B 2).trans rfl
 have d3B : w7.heap[b25]? = some (.cells #[.int .i64 p.f0, .int .i64 p.f1, .string p.f2] 27 (0, 0)) := T6.out.mem (by simp)
 have d30 := (blk_cell d3B 0).trans rfl
 have d31 := (blk_cell d3B 1).trans rfl
 have d32 := (blk_cell d3B 2).trans rfl
 refine start_ (n := 11) (S := (fun w' => w'.cell? ⟨b4, 0, none⟩ = some (.slice A0 l0.length c0) ∧ w'.cell? ⟨b4, 1, none⟩ = some (.slice A1 l1.length c1) ∧ w'.cell? ⟨b4, 2, none⟩ = some (.int .i64 a2) ∧ w'.cell? ⟨b4, 3, none⟩ = some (.int .i64 a3) ∧ w'.cell? ⟨b4, 4, none⟩ = some (.int .i64 a4) ∧ w'.cell? ⟨b23, 0, none⟩ = some (.int .i64 q1) ∧ w'.cell? ⟨b23, 1, none⟩ = some (.int .i64 q2) ∧ w'.cell? ⟨b23, 2, none⟩ = some (.string q3) ∧ w'.cell? ⟨b25, 0, none⟩ = some (.int .i64 p.f0) ∧ w'.cell? ⟨b25, 1, none⟩ = some (.int .i64 p.f1) ∧ w'.cell? ⟨b25, 2, none⟩ = some (.string p.f2))) (ds := []) #[false, false, false, false, false, false, false, false, false, false, false] (by kernel_rfl) rfl rfl ⟨d80, d81, d82, d83, d84, d10, d11, d12, d30, d31, d32⟩ (fun hHeld => ?_)
 have T8 := Aside0.mk T6.out.drew
 have M8 := Aside0.mk (M6.out.below (below_drew1 (Below.refl w7.heap.size w7)))
 have O8 := Aside0.mk (O6.out.below (below_drew1 (Below.refl w7.heap.size w7)))
 clear T6 M6 O6 d80 d81 d82 d83 d84 d10 d11 d12 d30 d31 d32 d8B d1B d3B
 generalize w7.drew = w8 at T8 M8 O8 hHeld ⊢
 refine take_ (i := 0) (N := some 159) (v := ?_) (a' := ?_) #[true, false, false, false, false, false, false, false, false, false, false] rfl rfl (by kernel_rfl) (fun _ _ _ h => h) (Or.inl ⟨by rfl, ?_⟩) (by first | exact hHeld | assumption) ?_ ?_
 rotate_left
 ·rintro w' ⟨s0, s1, s2, s3, s4, s5, s6, s7, s8, s9, s10⟩
  go_simp
  with_reducible rfl
 rotate_left
 ·simp only [Act.put, List.setIfInBounds_toArray, List.set_cons_zero, List.set_cons_succ]
  rfl
 refine pure_ (i := 1) (N := some 160) (v := ?_) (a' := ?_) #[true, true, false, false, false, false, false, false, false, false, false] rfl rfl (by kernel_rfl) (fun _ _ _ h => h) (Or.inl ⟨by rfl, ?_⟩) ?_ ?_
 rotate_left
 ·intro w'
  go_simp
  with_reducible rfl
 rotate_left
 ·simp only [Act.put, List.setIfInBounds_toArray, List.set_cons_zero, List.set_cons_succ]
  rfl
 refine pure_ (i := 2) (N := some 161) (v := ?_) (a' := ?_) #[true, true, true, false, false, false, false, false, false, false, false] rfl rfl (by kernel_rfl) (fun _ _ _ h => h) (Or.inl ⟨by rfl, ?_⟩) ?_ ?_
 rotate_left
 ·intro w'
  go_simp
  with_reducible rfl
 rotate_left
 ·simp only [Act.put, List.setIfInBounds_toArray, List.set_cons_zero, List.set_cons_succ]
  rfl
 refine pure_ (i := 3) (N := some 162) (v := ?_) (a' := ?_) #[true, true, true, true, false, false, false, false, false, false, false] rfl rfl (by kernel_rfl) (fun _ _ _ h => h) (Or.inl ⟨by rfl, ?_⟩) ?_ ?_
 rotate_left
 ·intro w'
  go_simp
  with_reducible rfl
 rotate_left
 ·simp only [Act.put, List.setIfInBounds_toArray, List.set_cons_zero, List.set_cons_succ]
  rfl
 refine pure_ (i := 4) (N := some 163) (v := ?_) (a' := ?_) #[true, true, true, true, true, false, false, false, false, false, false] rfl rfl (by kernel_rfl) (fun _ _ _ h => h) (Or.inl ⟨by rfl, ?_⟩) ?_ ?_
 rotate_left
 ·intro w'
  go_simp
  with_reducible rfl
 rotate_left
 ·simp only [Act.put, List.setIfInBounds_toArray, List.set_cons_zero, List.set_cons_succ]
  rfl
 refine pure_ (i := 5) (N := some 164) (v := undef) (a' := ?_) #[true, true, true, true, true, true, false, false, false, false, false] rfl rfl (by kernel_rfl) (fun _ _ _ h => h) (Or.inr ⟨by rfl, rfl⟩) ?_ ?_
 rotate_left
 ·simp only [Act.put, List.setIfInBounds_toArray, List.set_cons_zero, List.set_cons_succ]
  rfl
 refine pure_ (i := 6) (N := some 165) (v := undef) (a' := ?_) #[true, true, true, true, true, true, true, false, false, false, false] rfl rfl (by kernel_rfl) (fun _ _ _ h => h) (Or.inr ⟨by rfl, rfl⟩) ?_ ?_
 rotate_left
 ·simp only [Act.put, List.setIfInBounds_toArray, List.set_cons_zero, List.set_cons_succ]
  rfl
 refine pure_ (i := 7) (N := some 166) (v := undef) (a' := ?_) #[true, true, true, true, true, true, true, true, false, false, false] rfl rfl (by kernel_rfl) (fun _ _ _ h => h) (Or.inr ⟨by rfl, rfl⟩) ?_ ?_
 rotate_left
 ·simp only [Act.put, List.setIfInBounds_toArray, List.set_cons_zero, List.set_cons_succ]
  rfl
 refine pure_ (i := 8) (N := some 167) (v := ?_) (a' := ?_) #[true, true, true, true, true, true, true, true, true, false, false] rfl rfl (by kernel_rfl) (fun _ _ _ h => h) (Or.inl ⟨by rfl, ?_⟩) ?_ ?_
 rotate_left
 ·intro w'
  go_simp
  with_reducible rfl
 rotate_left
 ·simp only [Act.put, List.setIfInBounds_toArray, List.set_cons_zero, List.set_cons_succ]
  rfl
 refine one_ (i := 9) (N := none) #[true, true, true, true, true, true, true, true, true, true, false] rfl rfl (by kernel_rfl) (by decide) (fun K hK => ?_)
 have z6B : w8.heap[b6]? = some (.cells #[.slice none 0 0, .slice none 0 0, .int .i64 0, .int .i64 0, .int .i64 0] 41 (0, 0)) := T8.out.mem (by simp)
 have yb4B : w8.heap[b4]? = some (.cells #[.slice A0 l0.length c0, .slice A1 l1.length c1, .int .i64 a2, .int .i64 a3, .int .i64 a4] 41 (0, 0)) := T8.out.mem (by simp)
 have yb23B : w8.heap[b23]? = some (.cells #[.int .i64 q1, .int .i64 q2, .string q3] 60 (0, 0)) := T8.out.mem (by simp)
 have yb25B : w8.heap[b25]? = some (.cells #[.int .i64 p.f0, .int .i64 p.f1, .string p.f2] 27 (0, 0)) := T8.out.mem (by simp)
 have z60 := (blk_cell z6B 0).trans rfl
 have f60 := blk_frozen z6B 0
 have z61 := (blk_cell z6B 1).trans rfl
 have f61 := blk_frozen z6B 1
 have z62 := (blk_cell z6B 2).trans rfl
 have f62 := blk_frozen z6B 2
 have z63 := (blk_cell z6B 3).trans rfl
 have f63 := blk_frozen z6B 3
 have z64 := (blk_cell z6B 4).trans rfl
 have f64 := blk_frozen z6B 4
 refine skip_ (w1 := ?_) (by rfl) rfl ?_ ?_
 rotate_left
 ·go_simp
  rfl
 refine hK.out _ _ ⟨(blk_cell ((set5_far w8 b6 _ _ _ _ _ b4 N46.out).trans yb4B) 0).trans rfl, (blk_cell ((set5_far w8 b6 _ _ _ _ _ b4 N46.out).trans yb4B) 1).trans rfl, (blk_cell ((set5_far w8 b6 _ _ _ _ _ b4 N46.out).trans yb4B) 2).trans rfl, (blk_cell ((set5_far w8 b6 _ _ _ _ _ b4 N46.out).trans yb4B) 3).trans rfl, (blk_cell ((set5_far w8 b6 _ _ _ _ _ b4 N46.out).trans yb4B) 4).trans rfl, (blk_cell ((set5_far w8 b6 _ _ _ _ _ b23 N23.out).trans yb23B) 0).trans rfl, (blk_cell ((set5_far w8 b6 _ _ _ _ _ b23 N23.out).trans yb23B) 1).trans rfl, (blk_cell ((set5_far w8 b6 _ _ _ _ _ b23 N23.out).trans yb23B) 2).trans rfl, (blk_cell ((set5_far w8 b6 _ _ _ _ _ b25 N25.out).trans yb25B) 0).trans rfl, (blk_cell ((set5_far w8 b6 _ _ _ _ _ b25 N25.out).trans yb25B) 1).trans rfl, (blk_cell ((set5_far w8 b6 _ _ _ _ _ b25 N25.out).trans yb25B) 2).trans rfl⟩ (fun hHeld => ?_)
 clear hK K
 refine pure_ (i := 10) (N := some 7) (v := ?_) (a' := ?_) #[true, true, true, true, true, true, true, true, true, true, true] rfl rfl (by kernel_rfl) (fun _ _ _ h => h) (Or.inl ⟨by rfl, ?_⟩) ?_ ?_
 rotate_left
 ·intro w'
  go_simp
  with_reducible rfl
 rotate_left
 ·simp only [Act.put, List.setIfInBounds_toArray, List.set_cons_zero, List.set_cons_succ]
  rfl
 refine done_ (by kernel_rfl) ?_
 go_wp2
 refine bodyPost_ret (results_ct rfl _ _ b6 41 #[.slice A0 l0.length c0, .slice A1 l1.length c1, .int .i64 a2, .int .i64 a3, .int .i64 a4] (0, 0) _ rfl (set5_at w8 b6 _ _ _ _ _ _ _ _ _ _ z6B) Try.underlying41 rfl (by kernel_rfl)) rfl ?_
 exact ⟨_, _, rfl, M8.out.far z6B (by decide) (by decide) (fun k hk => set5_far w8 b6 _ _ _ _ _ k hk), tr_set5b T8.out (k := b6) (o := .cells #[.slice none 0 0, .slice none 0 0, .int .i64 0, .int .i64 0, .int .i64 0] 41 (0, 0)) (by simp) Lb6.out (fun q hq => by first | exact .tail _ (.tail _ (.tail _ (.tail _ hq))) | exact .tail _ (.tail _ (.tail _ (.tail _ (.tail _ hq))))) (fun q hq => by have := HLT.out q hq; have := Gb6.out; omega) _ _ _ _ _, O8.out.set5 Gb6.out _ _ _ _ _⟩
/-- What a net keeps, in so many acts: each packet under way was sent; what was sent is under way, taken or lost. -/
def InvT (i : Nat) (n : NetS) (sl : List S60) : Prop := n.a = n.b + n.c + (n.l.length : Int) ∧ 0 ≤ n.b ∧ 0 ≤ n.c ∧ n.a ≤ i ∧ ∀ p ∈ n.l, p ∈ sl
theorem wr1 (x : Int) (h : 0 ≤ x ∧ x ≤ 100000) : wrap64 (x + 1) = x + 1 := by unfold wrap64; omega
section
variable {i : Nat} {n : NetS} {sl : List S60}
theorem InvT.send (h : InvT i n sl) (hi : i < 1000) (p : S60) : InvT (i + 1) (n.send p).1 (sl ++ [p]) := by
 obtain ⟨h1, h2, h3, h4, h5⟩ := h
 have ha : wrap64 (n.a + 1) = n.a + 1 := wr1 _ (by omega)
 have hc : wrap64 (n.c + 1) = n.c + 1 := wr1 _ (by omega)
 have hin : ∀ q ∈ n.l, q ∈ sl ++ [p] := fun q hq => List.mem_append_left _ (h5 q hq)
 have hbad : InvT (i + 1) { n with a := wrap64 (n.a + 1), c := wrap64 (n.c + 1) } (sl ++ [p]) := by
  rw [ha, hc]
  exact ⟨show n.a + 1 = n.b + (n.c + 1) + (n.l.length : Int) by omega, h2, show 0 ≤ n.c + 1 by omega, show n.a + 1 ≤ ((i + 1 : Nat) : Int) by omega, hin⟩
 unfold NetS.send
 split
 ·split
  ·exact hbad
  ·rw [ha]
   refine ⟨?_, h2, h3, show n.a + 1 ≤ ((i + 1 : Nat) : Int) by omega, fun q hq => ?_⟩
   ·show n.a + 1 = n.b + n.c + ((n.l ++ [p]).length : Int)
    rw [List.length_append, List.length_singleton]
    omega
   ·rcases List.mem_append.1 hq with hq | hq
    ·exact hin q hq
    ·exact List.mem_append_right _ hq
 ·exact hbad
theorem InvT.mono (h : InvT i n sl) : InvT (i + 1) n sl := ⟨h.1, h.2.1, h.2.2.1, by have := h.2.2.2.1; omega, h.2.2.2.2⟩
theorem erase_len (l : List S60) (j : Nat) (hj : j < l.length) : ((l.eraseIdx j).length : Int) = (l.length : Int) - 1 := by
 rw [List.length_eraseIdx, if_pos hj]
 omega
theorem InvT.take (h : InvT i n sl) (hi : i < 1000) (j : Int) : InvT (i + 1) (n.take j).1 sl ∧ ((n.take j).2.2 = true → (n.take j).2.1 ∈ sl) := by
 obtain ⟨h1, h2, h3, h4, h5⟩ := h
 unfold NetS.take
 split
 next hj =>
  have hb : wrap64 (n.b + 1) = n.b + 1 := wr1 _ (by omega)
  have hl := erase_len n.l j.toNat (by omega)
  rw [hb]
  refine ⟨⟨show n.a = n.b + 1 + n.c + ((n.l.eraseIdx j.toNat).length : Int) by omega, show 0 ≤ n.b + 1 by omega, h3, by show n.a ≤ _; omega, fun q hq => h5 q (List.mem_of_mem_eraseIdx hq)⟩, fun _ => ?_⟩
  exact h5 _ (getD_mem (by omega))
 next hj => exact ⟨InvT.mono ⟨h1, h2, h3, h4, h5⟩, fun hh => by cases hh⟩
theorem InvT.drop (h : InvT i n sl) (hi : i < 1000) (j : Int) : InvT (i + 1) (n.drop j).1 sl := by
 obtain ⟨h1, h2, h3, h4, h5⟩ := h
 unfold NetS.drop
 split
 next hj =>
  have hc : wrap64 (n.c + 1) = n.c + 1 := wr1 _ (by omega)
  have hl := erase_len n.l j.toNat (by omega)
  rw [hc]
  exact ⟨show n.a = n.b + (n.c + 1) + ((n.l.eraseIdx j.toNat).length : Int) by omega, h2, show 0 ≤ n.c + 1 by omega, by show n.a ≤ _; omega, fun q hq => h5 q (List.mem_of_mem_eraseIdx hq)⟩
 next hj => exact InvT.mono ⟨h1, h2, h3, h4, h5⟩
theorem InvT.double (h : InvT i n sl) (hi : i < 1000) (j : Int) : InvT (i + 1) (n.double j).1 sl := by
 have h0 := h
 obtain ⟨h1, h2, h3, h4, h5⟩ := h
 unfold NetS.double
 split
 next hj =>
  split
  ·exact h0.mono
  ·have ha : wrap64 (n.a + 1) = n.a + 1 := wr1 _ (by omega)
   rw [ha]
   refine ⟨?_, h2, h3, show n.a + 1 ≤ ((i + 1 : Nat) : Int) by omega, fun q hq => ?_⟩
   ·show n.a + 1 = n.b + n.c + ((n.l ++ [_]).length : Int)
    rw [List.length_append, List.length_singleton]
    omega
   ·rcases List.mem_append.1 hq with hq | hq
    ·exact h5 q hq
    ·rw [List.mem_singleton.1 hq]
     exact h5 _ (getD_mem (by omega))
 next hj => exact h0.mono
theorem InvT.lose (h : InvT i n sl) (hi : i < 1000) (hl : n.l.length ≤ 4096) (pred : S60 → Bool) : InvT (i + 1) (n.lose pred) sl := by
 obtain ⟨h1, h2, h3, h4, h5⟩ := h
 have hf : (n.l.filter fun x => !pred x).length ≤ n.l.length := List.length_filter_le _ _
 have hc : wrap64 (n.c + ((n.l.length : Int) - ((n.l.filter fun x => !pred x).length : Int))) = n.c + ((n.l.length : Int) - ((n.l.filter fun x => !pred x).length : Int)) := by
  generalize (n.l.filter fun x => !pred x).length = m at hf
  unfold wrap64
  omega
 unfold NetS.lose
 rw [hc]
 refine ⟨?_, h2, ?_, by show n.a ≤ _; omega, fun q hq => h5 q (List.mem_filter.1 hq).1⟩
 ·show n.a = n.b + (n.c + ((n.l.length : Int) - ((n.l.filter fun x => !pred x).length : Int))) + ((n.l.filter fun x => !pred x).length : Int)
  omega
 ·show 0 ≤ n.c + ((n.l.length : Int) - ((n.l.filter fun x => !pred x).length : Int))
  omega
theorem InvT.cut (h : InvT i n sl) (hi : i < 1000) (hl : n.l.length ≤ 4096) (a b : Int) : InvT (i + 1) (n.cutN a b).1 sl := by
 unfold NetS.cutN
 split
 ·exact InvT.lose (n := n.cutAB a b) h hi hl _
 ·exact h.mono
end
/-- The list of what was sent, in memory beside the net. -/
def SV (w : World) (base : Nat) (sv : Value) (sl : List S60) (bs : List (Nat × Obj)) : Prop := w.ownsRow base 27 3 sv sl.length (pks sl) ∧ (∀ k, sv.ownBlock = some k → ∃ cs, (k, Obj.cells cs 27 (0, 0)) ∈ bs) ∧ ∀ q ∈ bs, NotM q.2
theorem SV.move {w0 w w' : World} {base g g' : Nat} {n n' : NetS} {sv : Value} {sl : List S60} {bs bs' : List (Nat × Obj)} (h : SV w base sv sl bs) (hT : Tr w0 w g n bs) (hT' : Tr w0 w' g' n' bs) : SV w' base sv sl bs :=
 ⟨own_move h.1 (fun k hk => by
  obtain ⟨cs, hc⟩ := h.2.1 k hk
  rw [hT.mem hc, hT'.mem hc]), h.2⟩
theorem SV.sub {w : World} {base : Nat} {sv : Value} {sl : List S60} {bs bs' : List (Nat × Obj)} (h : SV w base sv sl bs) (hs : ∀ q ∈ bs, q ∈ bs') (hn : ∀ q ∈ bs', NotM q.2) : SV w base sv sl bs' :=
 ⟨h.1, fun k hk => by
  obtain ⟨cs, hc⟩ := h.2.1 k hk
  exact ⟨cs, hs _ hc⟩, hn⟩
/-- Behind an append onto what was sent; ex: the other blocks that are told. -/
theorem Tr.appendSent {w0 W w2 : World} {g : Nat} {n : NetS} {sv sv2 : Value} {sl sl2 : List S60} {bs ex : List (Nat × Obj)} (hT : Tr w0 W g n bs) (hS : SV W w0.heap.size sv sl bs) (hex : ∀ q ∈ ex, q ∈ bs ∧ ∃ cs t, q.2 = Obj.cells cs t (0, 0) ∧ t ≠ 27 ∧ t ≠ 60 ∧ t ≠ 71) (hg : W.grownBy w2 sv.ownBlock) (hown : w2.ownsRow w0.heap.size 27 3 sv2 sl2.length (pks sl2)) (hat : ∀ k, sv2.ownBlock = some k → sv.ownBlock = some k ∨ W.heap.size ≤ k) :
  ∃ bs', Tr w0 w2 g n bs' ∧ SV w2 w0.heap.size sv2 sl2 bs' ∧ ∀ q ∈ ex, q ∈ bs' := by
 obtain ⟨h0, v, hN, hA⟩ := hT
 have hgne : some g ≠ sv.ownBlock := fun e => by
  obtain ⟨cs, hc⟩ := hS.2.1 g e.symm
  exact (hA _ hc).ne rfl
 have hvne : v.ownBlock = none ∨ v.ownBlock ≠ sv.ownBlock := by
  cases hv : v.ownBlock with
  | none => exact .inl rfl
  | some k =>
   right
   intro e
   obtain ⟨cs, hc⟩ := hS.2.1 k e.symm
   exact (hA _ hc).own hv.symm
 have hN2 : IsNet w2 w0.heap.size g v n := ⟨hN.ge, (hg.block g hN.lt hgne).trans hN.blk, own_other hN.row hg hvne, hN.cl, hN.le, hN.ok⟩
 have hB2 : Below w0.heap.size w0 w2 := h0.grown hg h0.size (own_base hS.1)
 have aex : ∀ q ∈ ex, Apart1 w2 g v q.1 q.2 := fun q hq => by
  obtain ⟨hqb, cs, t, e2, ht, _, _⟩ := hex q hq
  have ha := hA q hqb
  have hne : some q.1 ≠ sv.ownBlock := fun e => by
   obtain ⟨cs', hc⟩ := own_typed hS.1 q.1 e.symm
   rw [ha.blk, e2] at hc
   injection hc with hc
   injection hc with _ e _
   exact ht e
  exact ⟨(hg.block q.1 (blk_lt ha.blk) hne).trans ha.blk, ha.ne, ha.own⟩
 have nex : ∀ q ∈ ex, NotM q.2 := fun q hq => by
  obtain ⟨_, cs, t, e2, _, h1, h2⟩ := hex q hq
  rw [e2]
  exact NotM.of h1 h2
 cases hs2 : sv2.ownBlock with
 | none => exact ⟨ex, ⟨hB2, v, hN2, aex⟩, ⟨hown, (fun k hk => by rw [hs2] at hk; cases hk), nex⟩, fun q hq => hq⟩
 | some k =>
  obtain ⟨cs, hc⟩ := own_typed hown k hs2
  have hkg : k ≠ g := by
   rcases hat k hs2 with e | e
   ·exact fun e' => hgne (by rw [← e', e])
   ·have := hN.lt; omega
  have hkv : some k ≠ v.ownBlock := by
   intro e'
   rcases hat k hs2 with e | e
   ·rcases hvne with hv | hv
    ·rw [hv] at e'; cases e'
    ·exact hv (by rw [← e', e])
   ·have := own_lt hN.row k e'.symm; omega
  refine ⟨(k, .cells cs 27 (0, 0)) :: ex, ⟨hB2, v, hN2, fun q hq => ?_⟩, ⟨hown, fun k' hk' => ?_, fun q hq => ?_⟩, fun q hq => List.mem_cons_of_mem _ hq⟩
  ·rcases List.mem_cons.1 hq with rfl | hq
   ·exact ⟨hc, hkg, hkv⟩
   ·exact aex q hq
  ·rw [hs2] at hk'
   injection hk' with hk'
   subst hk'
   exact ⟨cs, List.mem_cons_self⟩
  ·rcases List.mem_cons.1 hq with rfl | hq
   ·exact NotM.of (by decide) (by decide)
   ·exact nex q hq
theorem rel0 : Rel net0 [] [] 0 0 0 := ⟨rfl, rfl, rfl, rfl, fun i j _ _ => uncut net0 rfl i j⟩
theorem MR0 (w : World) (base : Nat) : MR w base (.slice none 0 0) (.slice none 0 0) [] [] := ⟨Kd.R_nil _ _ _ _ _, Kd.R_nil _ _ _ _ _⟩
/-- Something that happens to the net, whatever the reference's empty net says to it; no packet is taken. -/
theorem stowagelaw08_oneT.any {w0 w : World} {g : Nat} {n : NetS} {bs : List (Nat × Obj)} {kd x y i1 i2 : Int} {s : ByteArray} {i : Nat} {sl : List S60} (hbs : ∀ q ∈ bs, NotM q.2) (hT : Tr w0 w g n bs) (hI : InvT i n sl) (hi : i < 1000) (h1 : kd ≠ 1) :
  Calls Try.prog 17 #[.pointer (some ⟨g, 0, none⟩), .agg #[.slice none 0 0, .slice none 0 0, .int .i64 0, .int .i64 0, .int .i64 0], .agg #[.int .i64 kd, .int .i64 x, .int .i64 y, .string s, .int .i64 i1, .int .i64 i2]] w fun e w' => ∃ n' v, e = .returned v ∧ Tr w0 w' g n' bs ∧ InvT (i + 1) n' (if kd = 0 then sl ++ [⟨x, y, s⟩] else sl) := by
 have hle := hT.le
 have h0le : net0.l.length ≤ 4096 := by decide
 have hM := MR0 w w0.heap.size
 by_cases h0 : kd = 0
 ·obtain ⟨r1, r3, r4, r5, hf, hr⟩ := send_ref rel0 h0le 1 (by simp) (by simp) ⟨x, y, s⟩
  rw [if_pos h0]
  refine (stowagelaw08_oneT.send hbs hT hM h0 hf).mono ?_
  rintro e w' ⟨v0, v1, rfl, hm, ht, ho⟩
  exact ⟨_, _, rfl, ht, hI.send hi _⟩
 rw [if_neg h0]
 by_cases h2 : kd = 2
 ·obtain ⟨r1, r3, r4, r5, hf, hr⟩ := drop_ref rel0 h0le i1
  refine (stowagelaw08_oneT.drop hbs hT hM h2 hf).mono ?_
  rintro e w' ⟨v0, v1, rfl, hm, ht, ho⟩
  exact ⟨_, _, rfl, ht, hI.drop hi _⟩
 by_cases h3 : kd = 3
 ·obtain ⟨r1, r3, r4, r5, hf, hr⟩ := double_ref rel0 h0le i1
  refine (stowagelaw08_oneT.double hbs hT hM h3 hf).mono ?_
  rintro e w' ⟨v0, v1, rfl, hm, ht, ho⟩
  exact ⟨_, _, rfl, ht, hI.double hi _⟩
 by_cases h4 : kd = 4
 ·obtain ⟨r1, r2, r3, r4, r5, hf, hr, hl⟩ := cut_ref rel0 h0le rfl (fun p hp => by cases hp) 10 (by simp [net0]) (by simp) i1 i2
  refine (stowagelaw08_oneT.cut hbs hT hM h4 hf).mono ?_
  rintro e w' ⟨v0, v1, rfl, hm, ht, ho⟩
  exact ⟨_, _, rfl, ht, hI.cut hi hle _ _⟩
 by_cases h5 : kd = 5
 ·refine (stowagelaw08_oneT.heal hbs hT hM h5).mono ?_
  rintro e w' ⟨v0, v1, rfl, hm, ht, ho⟩
  exact ⟨_, _, rfl, ht, hI.mono⟩
 by_cases h6 : kd = 6
 ·obtain ⟨r1, r3, r4, r5, hf, hr⟩ := clear_ref rel0 h0le 1 (by simp [net0]) i1
  refine (stowagelaw08_oneT.clear hbs hT hM h6 hf).mono ?_
  rintro e w' ⟨v0, v1, rfl, hm, ht, ho⟩
  exact ⟨_, _, rfl, ht, hI.lose hi hle _⟩
 ·have hf := at_ref rel0 i1
  have e0 : net0.at_ i1 = (z60, false) := by
   unfold NetS.at_
   rw [if_neg (by rintro ⟨a, b⟩; simp only [net0, List.length_nil] at b; omega)]
  rw [e0] at hf
  by_cases ht : 0 ≤ i1 ∧ i1 < n.l.length
  ·refine (stowagelaw08_oneT.at_ne (p := n.l.getD i1.toNat z60) hbs hT hM (by omega) hf (by unfold NetS.at_; rw [if_pos ht])).mono ?_
   rintro e w' ⟨v0, v1, rfl, hm, ht, ho⟩
   exact ⟨n, _, rfl, ht, hI.mono⟩
  ·refine (stowagelaw08_oneT.at_eq (p := z60) hbs hT hM (by omega) hf (by unfold NetS.at_; rw [if_neg ht])).mono ?_
   rintro e w' ⟨v0, v1, rfl, hm, ht, ho⟩
   exact ⟨n, _, rfl, ht, hI.mono⟩
end Go.Proofs.Ytodkackgdchocaa.Q
