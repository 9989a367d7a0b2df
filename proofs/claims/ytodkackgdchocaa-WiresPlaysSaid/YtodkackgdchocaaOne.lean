/- stowagelaw08.one, arm by arm: something that happens to a net and to the reference's, under no further conditions. -/
import Derived.Test.YtodkackgdchocaaTr
import Derived.Test.YtodkackgdchocaaQx2
import Derived.Test.YtodkackgdchocaaQx3
import Derived.Test.YtodkackgdchocaaQx4
import Derived.Test.YtodkackgdchocaaQx5
import Derived.Test.YtodkackgdchocaaQx6
namespace Go.Proofs.Ytodkackgdchocaa.Q
open Go.RowKit Go.Proofs.YtodkackgdchocaaW.PrintWords Go.Proofs.YtodkackgdchocaaW.PrintLast Go.Proofs.YtodkackgdchocaaW.PrintMore
set_option linter.unusedVariables false
set_option linter.unusedSimpArgs false
set_option maxHeartbeats 8000000
set_option maxRecDepth 10000
/-- The rows of the reference's net. -/
def MR (w : World) (base : Nat) (u0 u1 : Value) (l0 : List S60) (l1 : List S71) : Prop := Kd.R k60 60 w base (fun _ => True) u0 l0 ∧ Kd.R k71 71 w base (fun _ => True) u1 l1
/-- Blocks that are no rows of the reference's stay. -/
def KeepM (w w' : World) : Prop := w.heap.size ≤ w'.heap.size ∧ ∀ k, k < w.heap.size → (∀ cs, w.heap[k]? ≠ some (.cells cs 60 (0, 0)) ∧ w.heap[k]? ≠ some (.cells cs 71 (0, 0))) → w'.heap[k]? = w.heap[k]?
theorem k60E : ∀ q, q ∈ 60 :: k60.E → q = 60 := by
 intro q hq
 simpa [k60, Kd.iso, Kd.pair, Kd.int, Kd.string, Kd.scalar] using hq
theorem k71E : ∀ q, q ∈ 71 :: k71.E → q = 71 := by
 intro q hq
 simpa [k71, Kd.iso, Kd.pair, Kd.int, Kd.string, Kd.scalar] using hq
theorem KeepM.below {w w' : World} (hb : Below w.heap.size w w') : KeepM w w' := ⟨hb.size, fun k hk _ => hb.block k hk⟩
/-- A block that the reference's calls leave. -/
def NotM (o : Obj) : Prop := ∀ cs, o ≠ .cells cs 60 (0, 0) ∧ o ≠ .cells cs 71 (0, 0)
theorem KeepM.at_ {w w' : World} (h : KeepM w w') {k : Nat} {o : Obj} (hk : w.heap[k]? = some o) (ho : NotM o) : w'.heap[k]? = some o :=
 (h.2 k (blk_lt hk) (fun cs => by rw [hk]; exact ⟨fun e => (ho cs).1 (by injection e), fun e => (ho cs).2 (by injection e)⟩)).trans hk
theorem NotM.of {cs : Array Value} {t : TypeId} (h1 : t ≠ 60) (h2 : t ≠ 71) : NotM (.cells cs t (0, 0)) := fun cs' => ⟨fun e => h1 (by injection e), fun e => h2 (by injection e)⟩
theorem Tr.keptM {w0 w w' : World} {g : Nat} {n : NetS} {bs : List (Nat × Obj)} (h : Tr w0 w g n bs) (hk : KeepM w w') (hB : Below w0.heap.size w0 w') (hbs : ∀ q ∈ bs, NotM q.2) : Tr w0 w' g n bs := by
 obtain ⟨h0, v, h1, h2⟩ := h
 refine ⟨hB, v, ⟨h1.ge, hk.at_ h1.blk (NotM.of (by decide) (by decide)), own_move h1.row (fun k hq => ?_), h1.cl, h1.le, h1.ok⟩, fun q hq => ⟨hk.at_ (h2 q hq).blk (hbs q hq), (h2 q hq).ne, (h2 q hq).own⟩⟩
 obtain ⟨cs, hc⟩ := own_typed h1.row k hq
 rw [hk.at_ hc (NotM.of (by decide) (by decide)), hc]
theorem MR.keepT {w w' : World} {base : Nat} {u0 u1 : Value} {l0 : List S60} {l1 : List S71} (h : MR w base u0 u1 l0 l1) (hk : KeepT w w') : MR w' base u0 u1 l0 l1 :=
 ⟨hk.row h.1 (fun q hq => by rw [k60E q hq]; decide), hk.row h.2 (fun q hq => by rw [k71E q hq]; decide)⟩
theorem MR.below {w w' : World} {base : Nat} {u0 u1 : Value} {l0 : List S60} {l1 : List S71} (h : MR w base u0 u1 l0 l1) (hb : Below w.heap.size w w') : MR w' base u0 u1 l0 l1 := ⟨Kd.R_below h.1 hb, Kd.R_below h.2 hb⟩
/-- What the reference's rows are, by types. -/
def PM (w : World) (k : Nat) : Prop := ∃ cs, w.heap[k]? = some (.cells cs 60 (0, 0)) ∨ w.heap[k]? = some (.cells cs 71 (0, 0))
theorem MR.bound {w : World} {base : Nat} {u0 u1 : Value} {l0 : List S60} {l1 : List S71} (h : MR w base u0 u1 l0 l1) : Kd.R k60 60 w base (PM w) u0 l0 ∧ Kd.R k71 71 w base (PM w) u1 l1 := by
 refine ⟨Kd.R_mono (Kd.R_bound h.1) (fun k hk => ?_), Kd.R_mono (Kd.R_bound h.2) (fun k hk => ?_)⟩
 ·obtain ⟨_, _, _, q, hq, cs, hc⟩ := hk
  rw [k60E q hq] at hc
  exact ⟨cs, .inl hc⟩
 ·obtain ⟨_, _, _, q, hq, cs, hc⟩ := hk
  rw [k71E q hq] at hc
  exact ⟨cs, .inr hc⟩
theorem KeepM.of {w w' : World} {P : Nat → Prop} (h : Kept w w' P) (hP : ∀ k, P k → PM w k) : KeepM w w' :=
 ⟨h.1, fun k hk ht => h.2 k hk (fun hp => by
  obtain ⟨cs, hc | hc⟩ := hP k hp
  ·exact (ht cs).1 hc
  ·exact (ht cs).2 hc)⟩
section
variable {w0 w : World} {u0 u1 : Value} {l0 : List S60} {l1 : List S71} {a2 a3 a4 : Int}
theorem R_Send {k : Nat} {x y : Int} {s : ByteArray} {r1 : List S60} {r2 : List S71} {r3 r4 r5 : Int} {r6 : Bool} (hB : Below w0.heap.size w0 w) (hm : MR w w0.heap.size u0 u1 l0 l1) (h : stowageref08_Wires_Send.f k l0 l1 a2 a3 a4 x y s = some (r1, r2, r3, r4, r5, r6)) :
  Calls Try.prog 28 #[.agg #[u0, u1, .int .i64 a2, .int .i64 a3, .int .i64 a4], .agg #[.int .i64 x, .int .i64 y, .string s]] w fun e w' => ∃ v0 v1, e = .returned (.tuple #[.agg #[v0, v1, .int .i64 r3, .int .i64 r4, .int .i64 r5], .bool r6]) ∧ MR w' w0.heap.size v0 v1 r1 r2 ∧ KeepM w w' ∧ Below w0.heap.size w0 w' := by
 refine (stowageref08_Wires_Send.calls k (PM w) u0 l0 (PM w) u1 l1 a2 a3 a4 x y s r1 r2 r3 r4 r5 r6 w0 w hB hm.bound.1 hm.bound.2 h).mono ?_
 rintro e w' ⟨v0, v1, rfl, h0, h1, hb, hk⟩
 exact ⟨v0, v1, rfl, ⟨Kd.R_mono h0 (fun _ _ => trivial), Kd.R_mono h1 (fun _ _ => trivial)⟩, KeepM.of hk (fun k hk => hk.elim id id), hb⟩
theorem R_Take {x : Int} {r1 : List S60} {r2 : List S71} {r3 r4 r5 r6 r7 : Int} {r8 : ByteArray} {r9 : Bool} (hB : Below w0.heap.size w0 w) (hm : MR w w0.heap.size u0 u1 l0 l1) (h : stowageref08_Wires_Take.f l0 l1 a2 a3 a4 x = some (r1, r2, r3, r4, r5, r6, r7, r8, r9)) :
  Calls Try.prog 29 #[.agg #[u0, u1, .int .i64 a2, .int .i64 a3, .int .i64 a4], .int .i64 x] w fun e w' => ∃ v0 v1, e = .returned (.tuple #[.agg #[v0, v1, .int .i64 r3, .int .i64 r4, .int .i64 r5], .agg #[.int .i64 r6, .int .i64 r7, .string r8], .bool r9]) ∧ MR w' w0.heap.size v0 v1 r1 r2 ∧ KeepM w w' ∧ Below w0.heap.size w0 w' := by
 refine (stowageref08_Wires_Take.calls (PM w) u0 l0 (PM w) u1 l1 a2 a3 a4 x r1 r2 r3 r4 r5 r6 r7 r8 r9 w0 w hB hm.bound.1 hm.bound.2 h).mono ?_
 rintro e w' ⟨v0, v1, rfl, h0, h1, hb, hk⟩
 exact ⟨v0, v1, rfl, ⟨Kd.R_mono h0 (fun _ _ => trivial), Kd.R_mono h1 (fun _ _ => trivial)⟩, KeepM.of hk (fun k hk => hk.elim id id), hb⟩
theorem R_Drop {x : Int} {r1 : List S60} {r2 : List S71} {r3 r4 r5 : Int} {r6 : Bool} (hB : Below w0.heap.size w0 w) (hm : MR w w0.heap.size u0 u1 l0 l1) (h : stowageref08_Wires_Drop.f l0 l1 a2 a3 a4 x = some (r1, r2, r3, r4, r5, r6)) :
  Calls Try.prog 30 #[.agg #[u0, u1, .int .i64 a2, .int .i64 a3, .int .i64 a4], .int .i64 x] w fun e w' => ∃ v0 v1, e = .returned (.tuple #[.agg #[v0, v1, .int .i64 r3, .int .i64 r4, .int .i64 r5], .bool r6]) ∧ MR w' w0.heap.size v0 v1 r1 r2 ∧ KeepM w w' ∧ Below w0.heap.size w0 w' := by
 refine (stowageref08_Wires_Drop.calls (PM w) u0 l0 (PM w) u1 l1 a2 a3 a4 x r1 r2 r3 r4 r5 r6 w0 w hB hm.bound.1 hm.bound.2 h).mono ?_
 rintro e w' ⟨v0, v1, rfl, h0, h1, hb, hk⟩
 exact ⟨v0, v1, rfl, ⟨Kd.R_mono h0 (fun _ _ => trivial), Kd.R_mono h1 (fun _ _ => trivial)⟩, KeepM.of hk (fun k hk => hk.elim id id), hb⟩
theorem R_Double {x : Int} {r1 : List S60} {r2 : List S71} {r3 r4 r5 : Int} {r6 : Bool} (hB : Below w0.heap.size w0 w) (hm : MR w w0.heap.size u0 u1 l0 l1) (h : stowageref08_Wires_Double.f l0 l1 a2 a3 a4 x = some (r1, r2, r3, r4, r5, r6)) :
  Calls Try.prog 31 #[.agg #[u0, u1, .int .i64 a2, .int .i64 a3, .int .i64 a4], .int .i64 x] w fun e w' => ∃ v0 v1, e = .returned (.tuple #[.agg #[v0, v1, .int .i64 r3, .int .i64 r4, .int .i64 r5], .bool r6]) ∧ MR w' w0.heap.size v0 v1 r1 r2 ∧ KeepM w w' ∧ Below w0.heap.size w0 w' := by
 refine (stowageref08_Wires_Double.calls (PM w) u0 l0 (PM w) u1 l1 a2 a3 a4 x r1 r2 r3 r4 r5 r6 w0 w hB hm.bound.1 hm.bound.2 h).mono ?_
 rintro e w' ⟨v0, v1, rfl, h0, h1, hb, hk⟩
 exact ⟨v0, v1, rfl, ⟨Kd.R_mono h0 (fun _ _ => trivial), Kd.R_mono h1 (fun _ _ => trivial)⟩, KeepM.of hk (fun k hk => hk.elim id id), hb⟩
theorem R_Cut {k : Nat} {x y : Int} {r1 : List S60} {r2 : List S71} {r3 r4 r5 r6 : Int} (hB : Below w0.heap.size w0 w) (hm : MR w w0.heap.size u0 u1 l0 l1) (h : stowageref08_Wires_Cut.f k l0 l1 a2 a3 a4 x y = some (r1, r2, r3, r4, r5, r6)) :
  Calls Try.prog 32 #[.agg #[u0, u1, .int .i64 a2, .int .i64 a3, .int .i64 a4], .int .i64 x, .int .i64 y] w fun e w' => ∃ v0 v1, e = .returned (.tuple #[.agg #[v0, v1, .int .i64 r3, .int .i64 r4, .int .i64 r5], .int .i64 r6]) ∧ MR w' w0.heap.size v0 v1 r1 r2 ∧ KeepM w w' ∧ Below w0.heap.size w0 w' := by
 refine (stowageref08_Wires_Cut.calls k (PM w) u0 l0 (PM w) u1 l1 a2 a3 a4 x y r1 r2 r3 r4 r5 r6 w0 w hB hm.bound.1 hm.bound.2 h).mono ?_
 rintro e w' ⟨v0, v1, rfl, h0, h1, hb, hk⟩
 exact ⟨v0, v1, rfl, ⟨Kd.R_mono h0 (fun _ _ => trivial), Kd.R_mono h1 (fun _ _ => trivial)⟩, KeepM.of hk (fun k hk => hk.elim id id), hb⟩
theorem MR.slices (hm : MR w w0.heap.size u0 u1 l0 l1) : ∃ A0 c0 A1 c1, u0 = .slice A0 l0.length c0 ∧ u1 = .slice A1 l1.length c1 := by
 obtain ⟨A0, c0, h0⟩ := Kd.R_slice hm.1
 obtain ⟨A1, c1, h1⟩ := Kd.R_slice hm.2
 exact ⟨A0, c0, A1, c1, h0, h1⟩
theorem R_At {x : Int} {r1 r2 : Int} {r3 : ByteArray} {r4 : Bool} (hm : MR w w0.heap.size u0 u1 l0 l1) (h : stowageref08_Wires_At.f l0 l1 a2 a3 a4 x = some (r1, r2, r3, r4)) :
  Calls Try.prog 34 #[.agg #[u0, u1, .int .i64 a2, .int .i64 a3, .int .i64 a4], .int .i64 x] w fun e w' => e = .returned (.tuple #[.agg #[.int .i64 r1, .int .i64 r2, .string r3], .bool r4]) ∧ Below w.heap.size w w' := by
 obtain ⟨A0, c0, rfl, hc0, hC0⟩ := Kd.R_reads hm.1
 obtain ⟨A1, c1, rfl, hc1, hC1⟩ := Kd.R_reads hm.2
 exact stowageref08_Wires_At.calls A0 c0 l0 A1 c1 l1 a2 a3 a4 x r1 r2 r3 r4 w hC0 hc0 hC1 hc1 h
theorem R_Clear {k : Nat} {x : Int} {r1 : List S60} {r2 : List S71} {r3 r4 r5 r6 : Int} (hB : Below w0.heap.size w0 w) (hm : MR w w0.heap.size u0 u1 l0 l1) (h : stowageref08_Wires_Clear.f k l0 l1 a2 a3 a4 x = some (r1, r2, r3, r4, r5, r6)) :
  Calls Try.prog 33 #[.agg #[u0, u1, .int .i64 a2, .int .i64 a3, .int .i64 a4], .int .i64 x] w fun e w' => ∃ v0 v1, e = .returned (.tuple #[.agg #[v0, v1, .int .i64 r3, .int .i64 r4, .int .i64 r5], .int .i64 r6]) ∧ MR w' w0.heap.size v0 v1 r1 r2 ∧ KeepM w w' ∧ Below w0.heap.size w0 w' := by
 have h60 : Kd.R k60 60 w w0.heap.size (fun k => ∃ cs, w.heap[k]? = some (.cells cs 60 (0, 0))) u0 l0 := Kd.R_mono (Kd.R_bound hm.1) (fun k hk => by
  obtain ⟨_, _, _, q, hq, cs, hc⟩ := hk
  rw [k60E q hq] at hc
  exact ⟨cs, hc⟩)
 have h71 : Kd.R k71 71 w w0.heap.size (fun k => ∃ cs, w.heap[k]? = some (.cells cs 71 (0, 0))) u1 l1 := Kd.R_mono (Kd.R_bound hm.2) (fun k hk => by
  obtain ⟨_, _, _, q, hq, cs, hc⟩ := hk
  rw [k71E q hq] at hc
  exact ⟨cs, hc⟩)
 obtain ⟨A0, c0, rfl, hc0, hC0⟩ := Kd.R_reads h60
 have hr : ∀ W_, Kept w W_ (fun k => ∃ cs, w.heap[k]? = some (.cells cs 71 (0, 0))) → Kd.C k60 W_ A0 l0.length l0 := by
  intro W_ hk
  have h6 : Kd.R k60 60 W_ w0.heap.size (fun k => ∃ cs, w.heap[k]? = some (.cells cs 60 (0, 0))) (.slice A0 l0.length c0) l0 := Kd.R_step h60 (fun k hk1 hl => hk.2 k hl (fun hp => by
   obtain ⟨cs, hc⟩ := hk1
   obtain ⟨cs', hc'⟩ := hp
   rw [hc] at hc'
   injection hc' with hc'
   injection hc' with _ e
   revert e; decide))
  obtain ⟨A', c', e, _, hC⟩ := Kd.R_reads h6
  injection e with e1 _ e3
  rw [e1]
  exact hC
 refine (stowageref08_Wires_Clear.calls k A0 c0 l0 _ u1 l1 a2 a3 a4 x r1 r2 r3 r4 r5 r6 w0 w hB hr hc0 h71 h).mono ?_
 rintro e w' ⟨v0, v1, rfl, h0, h1, hb, hk⟩
 exact ⟨v0, v1, rfl, ⟨Kd.R_mono h0 (fun _ _ => trivial), Kd.R_mono h1 (fun _ _ => trivial)⟩, KeepM.of hk (fun k hk => by obtain ⟨cs, hc⟩ := hk; exact ⟨cs, .inr hc⟩), hb⟩
end
theorem Tr.box {w0 w w1 : World} {g : Nat} {n : NetS} {bs : List (Nat × Obj)} (h : Tr w0 w g n bs) (hb : Below w.heap.size w w1) {k : Nat} {o : Obj} (hk : k = w.heap.size) (ho : w1.heap[k]? = some o) : Tr w0 w1 g n ((k, o) :: bs) := by
 subst hk
 obtain ⟨h0, v, h1, h2⟩ := h
 refine ⟨below_step h0 hb, v, h1.below hb, fun q hq => ?_⟩
 rcases List.mem_cons.1 hq with rfl | hq
 ·exact ⟨ho, by have := h1.lt; show w.heap.size ≠ g; omega, fun hh => by have := own_lt h1.row _ hh.symm; omega⟩
 ·exact (h2 q hq).below hb
/-- Blocks that are neither a net's nor the reference's rows stay. -/
def KeepO (w w' : World) : Prop := w.heap.size ≤ w'.heap.size ∧ ∀ k, k < w.heap.size → (∀ cs, w.heap[k]? ≠ some (.cells cs 56 (0, 0)) ∧ w.heap[k]? ≠ some (.cells cs 27 (0, 0)) ∧ w.heap[k]? ≠ some (.cells cs 60 (0, 0)) ∧ w.heap[k]? ≠ some (.cells cs 71 (0, 0))) → w'.heap[k]? = w.heap[k]?
theorem KeepO.refl (w : World) : KeepO w w := ⟨Nat.le_refl _, fun _ _ _ => rfl⟩
theorem KeepO.trans {w w1 w2 : World} (h : KeepO w w1) (k : KeepO w1 w2) : KeepO w w2 :=
 ⟨Nat.le_trans h.1 k.1, fun i hi ht => by
  have e := h.2 i hi ht
  exact (k.2 i (Nat.lt_of_lt_of_le hi h.1) (fun cs => by rw [e]; exact ht cs)).trans e⟩
theorem KeepO.below {w w1 w2 : World} (h : KeepO w w1) (hb : Below w1.heap.size w1 w2) : KeepO w w2 := h.trans ⟨hb.size, fun k hk _ => hb.block k hk⟩
theorem KeepO.ofM {w w1 w2 : World} (h : KeepO w w1) (k : KeepM w1 w2) : KeepO w w2 := h.trans ⟨k.1, fun i hi ht => k.2 i hi (fun cs => ⟨(ht cs).2.2.1, (ht cs).2.2.2⟩)⟩
theorem KeepO.ofT {w w1 w2 : World} (h : KeepO w w1) (k : KeepT w1 w2) : KeepO w w2 := h.trans ⟨k.1, fun i hi ht => k.2 i hi (fun cs => ⟨(ht cs).1, (ht cs).2.1⟩)⟩
theorem KeepO.at_ {w w' : World} (h : KeepO w w') {k : Nat} {cs : Array Value} {t : TypeId} (hk : w.heap[k]? = some (.cells cs t (0, 0))) (h1 : t ≠ 56 ∧ t ≠ 27 ∧ t ≠ 60 ∧ t ≠ 71) : w'.heap[k]? = some (.cells cs t (0, 0)) :=
 (h.2 k (blk_lt hk) (fun cs' => by
  rw [hk]
  exact ⟨fun e => h1.1 (by injection e with e; injection e), fun e => h1.2.1 (by injection e with e; injection e), fun e => h1.2.2.1 (by injection e with e; injection e), fun e => h1.2.2.2 (by injection e with e; injection e)⟩)).trans hk
theorem KeepM.refl (w : World) : KeepM w w := ⟨Nat.le_refl _, fun _ _ _ => rfl⟩
theorem MR.far {w w' : World} {base b : Nat} {u0 u1 : Value} {l0 : List S60} {l1 : List S71} {cs : Array Value} {t : TypeId} (h : MR w base u0 u1 l0 l1) (hb : w.heap[b]? = some (.cells cs t (0, 0))) (h1 : t ≠ 60) (h2 : t ≠ 71) (hf : ∀ k, k ≠ b → w'.heap[k]? = w.heap[k]?) : MR w' base u0 u1 l0 l1 := by
 have hne : ∀ k, PM w k → k ≠ b := by
  rintro k ⟨cs', hc⟩ rfl
  rw [hb] at hc
  rcases hc with hc | hc
  ·injection hc with hc; injection hc with _ e _; exact h1 e
  ·injection hc with hc; injection hc with _ e _; exact h2 e
 exact ⟨Kd.R_mono (Kd.R_move h.bound.1 (fun k hk => hf k (hne k hk))) (fun _ _ => trivial), Kd.R_mono (Kd.R_move h.bound.2 (fun k hk => hf k (hne k hk))) (fun _ _ => trivial)⟩
theorem Tr.setB {w0 w : World} {g : Nat} {n : NetS} {bs : List (Nat × Obj)} {k : Nat} {o : Obj} (h : Tr w0 w g n bs) (hm : (k, o) ∈ bs) (hk : w0.heap.size ≤ k) (j : Nat) (u : Value) : Tr w0 (w.setCell ⟨k, j, none⟩ u) g n (bs.filter fun q => q.1 != k) := by
 obtain ⟨h0, v, h1, h2⟩ := h
 have hq := h2 _ hm
 refine ⟨h0.setCell hk u, v, h1.setFar (Ne.symm hq.ne) (Ne.symm hq.own) j u, fun q hq' => ?_⟩
 obtain ⟨hq1, hq2⟩ := List.mem_filter.1 hq'
 have hne : q.1 ≠ k := by simpa using hq2
 exact ⟨(Below.heap_setCell w ⟨k, j, none⟩ u q.1 hne).trans (h2 q hq1).blk, (h2 q hq1).ne, (h2 q hq1).own⟩
/-- A struct of five cells is stored in a block beside the net. -/
def set5 (w : World) (b : Nat) (x0 x1 x2 x3 x4 : Value) : World := ((((w.setCell ⟨b, 0, none⟩ x0).setCell ⟨b, 1, none⟩ x1).setCell ⟨b, 2, none⟩ x2).setCell ⟨b, 3, none⟩ x3).setCell ⟨b, 4, none⟩ x4
theorem set5_far (w : World) (b : Nat) (x0 x1 x2 x3 x4 : Value) (k : Nat) (hk : k ≠ b) : (set5 w b x0 x1 x2 x3 x4).heap[k]? = w.heap[k]? := by
 unfold set5
 rw [Below.heap_setCell _ _ _ _ hk, Below.heap_setCell _ _ _ _ hk, Below.heap_setCell _ _ _ _ hk, Below.heap_setCell _ _ _ _ hk, Below.heap_setCell _ _ _ _ hk]
theorem set5_at (w : World) (b : Nat) (x0 x1 x2 x3 x4 y0 y1 y2 y3 y4 : Value) (h : w.heap[b]? = some (.cells #[y0, y1, y2, y3, y4] 41 (0, 0))) : (set5 w b x0 x1 x2 x3 x4).heap[b]? = some (.cells #[x0, x1, x2, x3, x4] 41 (0, 0)) := by
 unfold set5
 exact blk_put (blk_put (blk_put (blk_put (blk_put h 0 _ rfl) 1 _ rfl) 2 _ rfl) 3 _ rfl) 4 _ rfl
theorem KeepO.set {w w1 : World} (h : KeepO w w1) {b : Nat} (hb : w.heap.size ≤ b) (j : Nat) (u : Value) : KeepO w (w1.setCell ⟨b, j, none⟩ u) :=
 ⟨by simpa [World.setCell] using h.1, fun k hk ht => (Below.heap_setCell w1 _ u k (by show k ≠ b; omega)).trans (h.2 k hk ht)⟩
theorem KeepO.set5 {w w1 : World} (h : KeepO w w1) {b : Nat} (hb : w.heap.size ≤ b) (x0 x1 x2 x3 x4 : Value) : KeepO w (set5 w1 b x0 x1 x2 x3 x4) := ((((h.set hb _ _).set hb _ _).set hb _ _).set hb _ _).set hb _ _
theorem Tr.set5 {w0 w : World} {g : Nat} {n : NetS} {bs : List (Nat × Obj)} {k : Nat} {o : Obj} (h : Tr w0 w g n bs) (hm : (k, o) ∈ bs) (hk : w0.heap.size ≤ k) (x0 x1 x2 x3 x4 : Value) : Tr w0 (set5 w k x0 x1 x2 x3 x4) g n [] := by
 obtain ⟨h0, v, h1, h2⟩ := h
 have hq := h2 _ hm
 exact ⟨((((h0.setCell hk _).setCell hk _).setCell hk _).setCell hk _).setCell hk _, v, ((((h1.setFar (Ne.symm hq.ne) (Ne.symm hq.own) _ _).setFar (Ne.symm hq.ne) (Ne.symm hq.own) _ _).setFar (Ne.symm hq.ne) (Ne.symm hq.own) _ _).setFar (Ne.symm hq.ne) (Ne.symm hq.own) _ _).setFar (Ne.symm hq.ne) (Ne.symm hq.own) _ _, fun q hq => by cases hq⟩
theorem notMs {bs : List (Nat × Obj)} (h : ∀ q ∈ bs, ∃ cs t, q.2 = .cells cs t (0, 0) ∧ t ≠ 60 ∧ t ≠ 71) : ∀ q ∈ bs, NotM q.2 := fun q hq => by
 obtain ⟨cs, t, e, h1, h2⟩ := h q hq
 rw [e]
 exact NotM.of h1 h2
theorem stowagelaw08_one.send {w0 w : World} {g : Nat} {n : NetS} {u0 u1 : Value} {l0 : List S60} {l1 : List S71} {a2 a3 a4 kd x y i1 i2 : Int} {s : ByteArray} (hT : Tr w0 w g n []) (hM : MR w w0.heap.size u0 u1 l0 l1) (hk : kd = 0) {k : Nat} {r1 : List S60} {r2 : List S71} {r3 r4 r5 : Int} {r6 : Bool} (h : stowageref08_Wires_Send.f k l0 l1 a2 a3 a4 x y s = some (r1, r2, r3, r4, r5, r6)) :
  Calls Try.prog 17 #[.pointer (some ⟨g, 0, none⟩), .agg #[u0, u1, .int .i64 a2, .int .i64 a3, .int .i64 a4], .agg #[.int .i64 kd, .int .i64 x, .int .i64 y, .string s, .int .i64 i1, .int .i64 i2]] w fun e w' => ∃ v0 v1, e = .returned (.tuple #[.agg #[v0, v1, .int .i64 r3, .int .i64 r4, .int .i64 r5], .bool ((n.send ⟨x, y, s⟩).2 == r6)]) ∧ MR w' w0.heap.size v0 v1 r1 r2 ∧ Tr w0 w' g (n.send ⟨x, y, s⟩).1 [] ∧ KeepO w w' := by
 obtain ⟨A0, c0, A1, c1, rfl, rfl⟩ := hM.slices
 have Tw := Aside0.mk hT
 have Mw := Aside0.mk hM
 have Ow := Aside0.mk (KeepO.refl w)
 have HR := Aside0.mk h
 clear hT hM h
 have q0 : (kd == 0) = true := beq_iff_eq.mpr hk
 clear hk
 go_enter Try.func17, Try.ntmps17
 go_wp2_with (first
  | ((with_reducible refine gate_dst (N := 4) rfl ?_); refine box_event ?hg (N := 4) ?hd (cs := #[.slice A0 l0.length c0, .slice A1 l1.length c1, .int .i64 a2, .int .i64 a3, .int .i64 a4]) (t := 41) ?hr ?_; (case hd => rfl); (case hg => rfl); (case hr => first | (go_simp; done) | (go_simp; rfl)); intro b4 hgb4 w1 hbox hb; have Tw1 := Aside0.mk (Tr.box Tw.out hb hgb4 hbox); have Mw1 := Aside0.mk (Mw.out.below hb); have Ow1 := Aside0.mk (Ow.out.below hb); have Gb4 : Aside0 (w.heap.size ≤ b4) := ⟨by rw [hgb4]; exact Ow.out.1⟩; have Lb4 : Aside0 (w0.heap.size ≤ b4) := ⟨by rw [hgb4]; exact Tw.out.1.size⟩; clear Tw Mw Ow hb hbox hgb4)
  | ((with_reducible refine gate_dst (N := 5) rfl ?_); refine box_event ?hg (N := 5) ?hd (cs := #[.int .i64 kd, .int .i64 x, .int .i64 y, .string s, .int .i64 i1, .int .i64 i2]) (t := 45) ?hr ?_; (case hd => rfl); (case hg => rfl); (case hr => first | (go_simp; done) | (go_simp; rfl)); intro b5 hgb5 w2 hbox hb; have Tw2 := Aside0.mk (Tr.box Tw1.out hb hgb5 hbox); have Mw2 := Aside0.mk (Mw1.out.below hb); have Ow2 := Aside0.mk (Ow1.out.below hb); have Gb5 : Aside0 (w.heap.size ≤ b5) := ⟨by rw [hgb5]; exact Ow1.out.1⟩; have Lb5 : Aside0 (w0.heap.size ≤ b5) := ⟨by rw [hgb5]; exact Tw1.out.1.size⟩; clear Tw1 Mw1 Ow1 hb hbox hgb5)
  | ((with_reducible refine gate_dst (N := 6) rfl ?_); refine box_event ?hg (N := 6) ?hd (cs := #[.slice none 0 0, .slice none 0 0, .int .i64 0, .int .i64 0, .int .i64 0]) (t := 41) ?hr ?_; (case hd => rfl); (case hg => rfl); (case hr => first | (go_simp; done) | (go_simp; rfl)); intro b6 hgb6 w3 hbox hb; have Tw3 := Aside0.mk (Tr.box Tw2.out hb hgb6 hbox); have Mw3 := Aside0.mk (Mw2.out.below hb); have Ow3 := Aside0.mk (Ow2.out.below hb); have Gb6 : Aside0 (w.heap.size ≤ b6) := ⟨by rw [hgb6]; exact Ow2.out.1⟩; have Lb6 : Aside0 (w0.heap.size ≤ b6) := ⟨by rw [hgb6]; exact Tw2.out.1.size⟩; have N46 : Aside0 (b4 ≠ b6) := ⟨by rw [hgb6]; exact Nat.ne_of_lt (blk_lt (Tw2.out.mem (k := b4) (o := .cells #[.slice A0 l0.length c0, .slice A1 l1.length c1, .int .i64 a2, .int .i64 a3, .int .i64 a4] 41 (0, 0)) (by simp)))⟩; clear Tw2 Mw2 Ow2 hb hbox hgb6; have d5B : w3.heap[b5]? = some (.cells #[.int .i64 kd, .int .i64 x, .int .i64 y, .string s, .int .i64 i1, .int .i64 i2] 45 (0, 0)) := Tw3.out.mem (by simp); have d50 := (blk_cell d5B 0).trans rfl; have d51 := (blk_cell d5B 1).trans rfl; have d52 := (blk_cell d5B 2).trans rfl; have d53 := (blk_cell d5B 3).trans rfl; have d54 := (blk_cell d5B 4).trans rfl; have d55 := (blk_cell d5B 5).trans rfl; have d4B : w3.heap[b4]? = some (.cells #[.slice A0 l0.length c0, .slice A1 l1.length c1, .int .i64 a2, .int .i64 a3, .int .i64 a4] 41 (0, 0)) := Tw3.out.mem (by simp); have d40 := (blk_cell d4B 0).trans rfl; have d41 := (blk_cell d4B 1).trans rfl; have d42 := (blk_cell d4B 2).trans rfl; have d43 := (blk_cell d4B 3).trans rfl; have d44 := (blk_cell d4B 4).trans rfl))
 refine (R_Send Tw3.out.1 Mw3.out HR.out).mono ?_
 rintro e w4 ⟨v0, v1, rfl, hM, hk, hB⟩
 obtain ⟨A2, c2, A3, c3, rfl, rfl⟩ := hM.slices
 have T4 := Aside0.mk ((Tr.keptM Tw3.out hk hB (notMs (fun q hq => by simp only [List.mem_cons, List.not_mem_nil, or_false] at hq; rcases hq with rfl | rfl | rfl <;> exact ⟨_, _, rfl, by decide, by decide⟩))).push (.cells #[.slice A2 r1.length c2, .slice A3 r2.length c3, .int .i64 r3, .int .i64 r4, .int .i64 r5] 41 (0, 0)))
 have M4 := Aside0.mk (hM.below (below_alloc (Below.refl w4.heap.size w4) (.cells #[.slice A2 r1.length c2, .slice A3 r2.length c3, .int .i64 r3, .int .i64 r4, .int .i64 r5] 41 (0, 0))))
 have O4 := Aside0.mk ((Ow3.out.ofM hk).below (below_alloc (Below.refl w4.heap.size w4) (.cells #[.slice A2 r1.length c2, .slice A3 r2.length c3, .int .i64 r3, .int .i64 r4, .int .i64 r5] 41 (0, 0))))
 clear Tw3 Mw3 Ow3 hM hk hB d4B d40 d41 d42 d43 d44 d5B d50 d51 d52 d53 d54 d55 HR
 go_upto_region 4 with (fail)
 generalize w4.alloc (.cells #[.slice A2 r1.length c2, .slice A3 r2.length c3, .int .i64 r3, .int .i64 r4, .int .i64 r5] 41 (0, 0)) = w5 at T4 M4 O4 ⊢
 generalize w4.heap.size = b8 at T4 ⊢
 have d5B : w5.heap[b5]? = some (.cells #[.int .i64 kd, .int .i64 x, .int .i64 y, .string s, .int .i64 i1, .int .i64 i2] 45 (0, 0)) := T4.out.mem (by simp)
 have d51 := (blk_cell d5B 1).trans rfl
 have d52 := (blk_cell d5B 2).trans rfl
 have d53 := (blk_cell d5B 3).trans rfl
 have d8B : w5.heap[b8]? = some (.cells #[.slice A2 r1.length c2, .slice A3 r2.length c3, .int .i64 r3, .int .i64 r4, .int .i64 r5] 41 (0, 0)) := T4.out.mem (by simp)
 have d80 := (blk_cell d8B 0).trans rfl
 have d81 := (blk_cell d8B 1).trans rfl
 have d82 := (blk_cell d8B 2).trans rfl
 have d83 := (blk_cell d8B 3).trans rfl
 have d84 := (blk_cell d8B 4).trans rfl
 refine start_ (n := 9) (S := (fun w' => w'.cell? ⟨b8, 0, none⟩ = some (.slice A2 r1.length c2) ∧ w'.cell? ⟨b8, 1, none⟩ = some (.slice A3 r2.length c3) ∧ w'.cell? ⟨b8, 2, none⟩ = some (.int .i64 r3) ∧ w'.cell? ⟨b8, 3, none⟩ = some (.int .i64 r4) ∧ w'.cell? ⟨b8, 4, none⟩ = some (.int .i64 r5) ∧ w'.cell? ⟨b5, 1, none⟩ = some (.int .i64 x) ∧ w'.cell? ⟨b5, 2, none⟩ = some (.int .i64 y) ∧ w'.cell? ⟨b5, 3, none⟩ = some (.string s))) (ds := [7]) #[false, false, false, false, false, false, false, false, false] (by kernel_rfl) rfl rfl ⟨d80, d81, d82, d83, d84, d51, d52, d53⟩ (fun hHeld => ?_)
 refine take_ (i := 0) (N := some 38) (v := ?_) (a' := ?_) #[true, false, false, false, false, false, false, false, false] rfl rfl (by kernel_rfl) (fun _ _ _ h => h) (Or.inl ⟨by rfl, ?_⟩) (by first | exact hHeld | assumption) ?_ ?_
 rotate_left
 ·rintro w' ⟨s0, s1, s2, s3, s4, s5, s6, s7⟩
  go_simp
  with_reducible rfl
 rotate_left
 ·simp only [Act.put, List.setIfInBounds_toArray, List.set_cons_zero, List.set_cons_succ]
  rfl
 refine pure_ (i := 1) (N := some 39) (v := ?_) (a' := ?_) #[true, true, false, false, false, false, false, false, false] rfl rfl (by kernel_rfl) (fun _ _ _ h => h) (Or.inl ⟨by rfl, ?_⟩) ?_ ?_
 rotate_left
 ·intro w'
  go_simp
  with_reducible rfl
 rotate_left
 ·simp only [Act.put, List.setIfInBounds_toArray, List.set_cons_zero, List.set_cons_succ]
  rfl
 refine pure_ (i := 2) (N := some 40) (v := ?_) (a' := ?_) #[true, true, true, false, false, false, false, false, false] rfl rfl (by kernel_rfl) (fun _ _ _ h => h) (Or.inl ⟨by rfl, ?_⟩) ?_ ?_
 rotate_left
 ·intro w'
  go_simp
  with_reducible rfl
 rotate_left
 ·simp only [Act.put, List.setIfInBounds_toArray, List.set_cons_zero, List.set_cons_succ]
  rfl
 refine take_ (i := 3) (N := some 41) (v := ?_) (a' := ?_) #[true, true, true, true, false, false, false, false, false] rfl rfl (by kernel_rfl) (fun _ _ _ h => h) (Or.inl ⟨by rfl, ?_⟩) (by first | exact hHeld | assumption) ?_ ?_
 rotate_left
 ·rintro w' ⟨s0, s1, s2, s3, s4, s5, s6, s7⟩
  go_simp
  with_reducible rfl
 rotate_left
 ·simp only [Act.put, List.setIfInBounds_toArray, List.set_cons_zero, List.set_cons_succ]
  rfl
 refine pure_ (i := 5) (N := some 43) (v := ?_) (a' := ?_) #[true, true, true, true, false, true, false, false, false] rfl rfl (by kernel_rfl) (fun _ _ _ h => h) (Or.inl ⟨by rfl, ?_⟩) ?_ ?_
 rotate_left
 ·intro w'
  go_simp
  with_reducible rfl
 rotate_left
 ·simp only [Act.put, List.setIfInBounds_toArray, List.set_cons_zero, List.set_cons_succ]
  rfl
 refine one_ (i := 4) (N := some 42) #[true, true, true, true, true, true, false, false, false] rfl rfl (by kernel_rfl) (by decide) (fun K hK => ?_)
 refine call_ 11 #[.pointer (some ⟨g, 0, none⟩), .agg #[.int .i64 x, .int .i64 y, .string s]] (by rfl) rfl (by first | (go_simp; done) | (go_simp; rfl)) ?_
 refine (T_Send ⟨x, y, s⟩ T4.out.drew).mono ?_
 rintro e w6 ⟨rfl, hT6, hkt⟩
 have T6 := Aside0.mk hT6
 have M6 := Aside0.mk ((M4.out.below (below_drew1 (Below.refl w5.heap.size w5))).keepT hkt)
 have O6 := Aside0.mk ((O4.out.below (below_drew1 (Below.refl w5.heap.size w5))).ofT hkt)
 have e5B : w6.heap[b5]? = some (.cells #[.int .i64 kd, .int .i64 x, .int .i64 y, .string s, .int .i64 i1, .int .i64 i2] 45 (0, 0)) := hT6.mem (by simp)
 have e51 := (blk_cell e5B 1).trans rfl
 have e52 := (blk_cell e5B 2).trans rfl
 have e53 := (blk_cell e5B 3).trans rfl
 have e8B : w6.heap[b8]? = some (.cells #[.slice A2 r1.length c2, .slice A3 r2.length c3, .int .i64 r3, .int .i64 r4, .int .i64 r5] 41 (0, 0)) := hT6.mem (by simp)
 have e80 := (blk_cell e8B 0).trans rfl
 have e81 := (blk_cell e8B 1).trans rfl
 have e82 := (blk_cell e8B 2).trans rfl
 have e83 := (blk_cell e8B 3).trans rfl
 have e84 := (blk_cell e8B 4).trans rfl
 refine ⟨_, rfl, hK.out _ _ ⟨e80, e81, e82, e83, e84, e51, e52, e53⟩ (fun hHeld => ?_)⟩
 clear hK K hT6 hkt T4 M4 O4
 refine norm_ (a' := ?_) ?_ ?_
 rotate_left
 ·show Act.put _ (some 42) _ = _
  simp only [Act.put, List.setIfInBounds_toArray, List.set_cons_zero, List.set_cons_succ]
  rfl
 refine pure_ (i := 6) (N := some 44) (v := ?_) (a' := ?_) #[true, true, true, true, true, true, true, false, false] rfl rfl (by kernel_rfl) (fun _ _ _ h => h) (Or.inl ⟨by rfl, ?_⟩) ?_ ?_
 rotate_left
 ·intro w'
  go_simp
  with_reducible rfl
 rotate_left
 ·simp only [Act.put, List.setIfInBounds_toArray, List.set_cons_zero, List.set_cons_succ]
  rfl
 refine last_ (i := 7) (N := none) #[true, true, true, true, true, true, true, true, false] rfl rfl (by kernel_rfl) (by decide) (fun K hK => ?_)
 have z6B : w6.heap[b6]? = some (.cells #[.slice none 0 0, .slice none 0 0, .int .i64 0, .int .i64 0, .int .i64 0] 41 (0, 0)) := T6.out.mem (by simp)
 have z60 := (blk_cell z6B 0).trans rfl
 have f60 := blk_frozen z6B 0
 have z61 := (blk_cell z6B 1).trans rfl
 have f61 := blk_frozen z6B 1
 have z62 := (blk_cell z6B 2).trans rfl
 have f62 := blk_frozen z6B 2
 have z63 := (blk_cell z6B 3).trans rfl
 have f63 := blk_frozen z6B 3
 have z64 := (blk_cell z6B 4).trans rfl
 have f64 := blk_frozen z6B 4
 refine skip_ (w1 := ?_) (by rfl) rfl ?_ ?_
 rotate_left
 ·go_simp
  rfl
 refine hK.out _ _ ?_
 clear hK K
 refine pure_ (i := 8) (N := some 7) (v := ?_) (a' := ?_) #[true, true, true, true, true, true, true, true, true] rfl rfl (by kernel_rfl) (fun _ _ _ h => h) (Or.inl ⟨by rfl, ?_⟩) ?_ ?_
 rotate_left
 ·intro w'
  go_simp
  with_reducible rfl
 rotate_left
 ·simp only [Act.put, List.setIfInBounds_toArray, List.set_cons_zero, List.set_cons_succ]
  rfl
 refine done_ (by kernel_rfl) ?_
 go_wp2
 refine bodyPost_ret (results_ct rfl _ _ b6 41 #[.slice A2 r1.length c2, .slice A3 r2.length c3, .int .i64 r3, .int .i64 r4, .int .i64 r5] (0, 0) _ rfl (set5_at w6 b6 _ _ _ _ _ _ _ _ _ _ z6B) Try.underlying41 rfl (by kernel_rfl)) rfl ?_
 exact ⟨_, _, rfl, M6.out.far z6B (by decide) (by decide) (fun k hk => set5_far w6 b6 _ _ _ _ _ k hk), Tr.set5 T6.out (k := b6) (o := .cells #[.slice none 0 0, .slice none 0 0, .int .i64 0, .int .i64 0, .int .i64 0] 41 (0, 0)) (by simp) Lb6.out _ _ _ _ _, O6.out.set5 Gb6.out _ _ _ _ _⟩
theorem stowagelaw08_one.drop {w0 w : World} {g : Nat} {n : NetS} {u0 u1 : Value} {l0 : List S60} {l1 : List S71} {a2 a3 a4 kd x y i1 i2 : Int} {s : ByteArray} (hT : Tr w0 w g n []) (hM : MR w w0.heap.size u0 u1 l0 l1) (hk : kd = 2) {r1 : List S60} {r2 : List S71} {r3 r4 r5 : Int} {r6 : Bool} (h : stowageref08_Wires_Drop.f l0 l1 a2 a3 a4 i1 = some (r1, r2, r3, r4, r5, r6)) :
  Calls Try.prog 17 #[.pointer (some ⟨g, 0, none⟩), .agg #[u0, u1, .int .i64 a2, .int .i64 a3, .int .i64 a4], .agg #[.int .i64 kd, .int .i64 x, .int .i64 y, .string s, .int .i64 i1, .int .i64 i2]] w fun e w' => ∃ v0 v1, e = .returned (.tuple #[.agg #[v0, v1, .int .i64 r3, .int .i64 r4, .int .i64 r5], .bool ((n.drop i1).2 == r6)]) ∧ MR w' w0.heap.size v0 v1 r1 r2 ∧ Tr w0 w' g (n.drop i1).1 [] ∧ KeepO w w' := by
 obtain ⟨A0, c0, A1, c1, rfl, rfl⟩ := hM.slices
 have Tw := Aside0.mk hT
 have Mw := Aside0.mk hM
 have Ow := Aside0.mk (KeepO.refl w)
 have HR := Aside0.mk h
 clear hT hM h
 have q0 : (kd == 0) = false := beq_eq_false_iff_ne.mpr (by omega)
 have q1 : (kd == 1) = false := beq_eq_false_iff_ne.mpr (by omega)
 have q2 : (kd == 2) = true := beq_iff_eq.mpr hk
 clear hk
 go_enter Try.func17, Try.ntmps17
 go_wp2_with (first
  | ((with_reducible refine gate_dst (N := 4) rfl ?_); refine box_event ?hg (N := 4) ?hd (cs := #[.slice A0 l0.length c0, .slice A1 l1.length c1, .int .i64 a2, .int .i64 a3, .int .i64 a4]) (t := 41) ?hr ?_; (case hd => rfl); (case hg => rfl); (case hr => first | (go_simp; done) | (go_simp; rfl)); intro b4 hgb4 w1 hbox hb; have Tw1 := Aside0.mk (Tr.box Tw.out hb hgb4 hbox); have Mw1 := Aside0.mk (Mw.out.below hb); have Ow1 := Aside0.mk (Ow.out.below hb); have Gb4 : Aside0 (w.heap.size ≤ b4) := ⟨by rw [hgb4]; exact Ow.out.1⟩; have Lb4 : Aside0 (w0.heap.size ≤ b4) := ⟨by rw [hgb4]; exact Tw.out.1.size⟩; clear Tw Mw Ow hb hbox hgb4)
  | ((with_reducible refine gate_dst (N := 5) rfl ?_); refine box_event ?hg (N := 5) ?hd (cs := #[.int .i64 kd, .int .i64 x, .int .i64 y, .string s, .int .i64 i1, .int .i64 i2]) (t := 45) ?hr ?_; (case hd => rfl); (case hg => rfl); (case hr => first | (go_simp; done) | (go_simp; rfl)); intro b5 hgb5 w2 hbox hb; have Tw2 := Aside0.mk (Tr.box Tw1.out hb hgb5 hbox); have Mw2 := Aside0.mk (Mw1.out.below hb); have Ow2 := Aside0.mk (Ow1.out.below hb); have Gb5 : Aside0 (w.heap.size ≤ b5) := ⟨by rw [hgb5]; exact Ow1.out.1⟩; have Lb5 : Aside0 (w0.heap.size ≤ b5) := ⟨by rw [hgb5]; exact Tw1.out.1.size⟩; clear Tw1 Mw1 Ow1 hb hbox hgb5)
  | ((with_reducible refine gate_dst (N := 6) rfl ?_); refine box_event ?hg (N := 6) ?hd (cs := #[.slice none 0 0, .slice none 0 0, .int .i64 0, .int .i64 0, .int .i64 0]) (t := 41) ?hr ?_; (case hd => rfl); (case hg => rfl); (case hr => first | (go_simp; done) | (go_simp; rfl)); intro b6 hgb6 w3 hbox hb; have Tw3 := Aside0.mk (Tr.box Tw2.out hb hgb6 hbox); have Mw3 := Aside0.mk (Mw2.out.below hb); have Ow3 := Aside0.mk (Ow2.out.below hb); have Gb6 : Aside0 (w.heap.size ≤ b6) := ⟨by rw [hgb6]; exact Ow2.out.1⟩; have Lb6 : Aside0 (w0.heap.size ≤ b6) := ⟨by rw [hgb6]; exact Tw2.out.1.size⟩; have N46 : Aside0 (b4 ≠ b6) := ⟨by rw [hgb6]; exact Nat.ne_of_lt (blk_lt (Tw2.out.mem (k := b4) (o := .cells #[.slice A0 l0.length c0, .slice A1 l1.length c1, .int .i64 a2, .int .i64 a3, .int .i64 a4] 41 (0, 0)) (by simp)))⟩; clear Tw2 Mw2 Ow2 hb hbox hgb6; have d5B : w3.heap[b5]? = some (.cells #[.int .i64 kd, .int .i64 x, .int .i64 y, .string s, .int .i64 i1, .int .i64 i2] 45 (0, 0)) := Tw3.out.mem (by simp); have d50 := (blk_cell d5B 0).trans rfl; have d51 := (blk_cell d5B 1).trans rfl; have d52 := (blk_cell d5B 2).trans rfl; have d53 := (blk_cell d5B 3).trans rfl; have d54 := (blk_cell d5B 4).trans rfl; have d55 := (blk_cell d5B 5).trans rfl; have d4B : w3.heap[b4]? = some (.cells #[.slice A0 l0.length c0, .slice A1 l1.length c1, .int .i64 a2, .int .i64 a3, .int .i64 a4] 41 (0, 0)) := Tw3.out.mem (by simp); have d40 := (blk_cell d4B 0).trans rfl; have d41 := (blk_cell d4B 1).trans rfl; have d42 := (blk_cell d4B 2).trans rfl; have d43 := (blk_cell d4B 3).trans rfl; have d44 := (blk_cell d4B 4).trans rfl))
 refine (R_Drop Tw3.out.1 Mw3.out HR.out).mono ?_
 rintro e w4 ⟨v0, v1, rfl, hM, hk, hB⟩
 obtain ⟨A2, c2, A3, c3, rfl, rfl⟩ := hM.slices
 have T4 := Aside0.mk ((Tr.keptM Tw3.out hk hB (notMs (fun q hq => by simp only [List.mem_cons, List.not_mem_nil, or_false] at hq; rcases hq with rfl | rfl | rfl <;> exact ⟨_, _, rfl, by decide, by decide⟩))).push (.cells #[.slice A2 r1.length c2, .slice A3 r2.length c3, .int .i64 r3, .int .i64 r4, .int .i64 r5] 41 (0, 0)))
 have M4 := Aside0.mk (hM.below (below_alloc (Below.refl w4.heap.size w4) (.cells #[.slice A2 r1.length c2, .slice A3 r2.length c3, .int .i64 r3, .int .i64 r4, .int .i64 r5] 41 (0, 0))))
 have O4 := Aside0.mk ((Ow3.out.ofM hk).below (below_alloc (Below.refl w4.heap.size w4) (.cells #[.slice A2 r1.length c2, .slice A3 r2.length c3, .int .i64 r3, .int .i64 r4, .int .i64 r5] 41 (0, 0))))
 clear Tw3 Mw3 Ow3 hM hk hB d4B d40 d41 d42 d43 d44 d5B d50 d51 d52 d53 d54 d55 HR
 go_upto_region 11 with (fail)
 generalize w4.alloc (.cells #[.slice A2 r1.length c2, .slice A3 r2.length c3, .int .i64 r3, .int .i64 r4, .int .i64 r5] 41 (0, 0)) = w5 at T4 M4 O4 ⊢
 generalize w4.heap.size = b8 at T4 ⊢
 have d5B : w5.heap[b5]? = some (.cells #[.int .i64 kd, .int .i64 x, .int .i64 y, .string s, .int .i64 i1, .int .i64 i2] 45 (0, 0)) := T4.out.mem (by simp)
 have d54 := (blk_cell d5B 4).trans rfl
 have d8B : w5.heap[b8]? = some (.cells #[.slice A2 r1.length c2, .slice A3 r2.length c3, .int .i64 r3, .int .i64 r4, .int .i64 r5] 41 (0, 0)) := T4.out.mem (by simp)
 have d80 := (blk_cell d8B 0).trans rfl
 have d81 := (blk_cell d8B 1).trans rfl
 have d82 := (blk_cell d8B 2).trans rfl
 have d83 := (blk_cell d8B 3).trans rfl
 have d84 := (blk_cell d8B 4).trans rfl
 refine start_ (n := 9) (S := (fun w' => w'.cell? ⟨b8, 0, none⟩ = some (.slice A2 r1.length c2) ∧ w'.cell? ⟨b8, 1, none⟩ = some (.slice A3 r2.length c3) ∧ w'.cell? ⟨b8, 2, none⟩ = some (.int .i64 r3) ∧ w'.cell? ⟨b8, 3, none⟩ = some (.int .i64 r4) ∧ w'.cell? ⟨b8, 4, none⟩ = some (.int .i64 r5) ∧ w'.cell? ⟨b5, 4, none⟩ = some (.int .i64 i1))) (ds := [7]) #[false, false, false, false, false, false, false, false, false] (by kernel_rfl) rfl rfl ⟨d80, d81, d82, d83, d84, d54⟩ (fun hHeld => ?_)
 refine take_ (i := 0) (N := some 80) (v := ?_) (a' := ?_) #[true, false, false, false, false, false, false, false, false] rfl rfl (by kernel_rfl) (fun _ _ _ h => h) (Or.inl ⟨by rfl, ?_⟩) (by first | exact hHeld | assumption) ?_ ?_
 rotate_left
 ·rintro w' ⟨s0, s1, s2, s3, s4, s5⟩
  go_simp
  with_reducible rfl
 rotate_left
 ·simp only [Act.put, List.setIfInBounds_toArray, List.set_cons_zero, List.set_cons_succ]
  rfl
 refine pure_ (i := 1) (N := some 81) (v := ?_) (a' := ?_) #[true, true, false, false, false, false, false, false, false] rfl rfl (by kernel_rfl) (fun _ _ _ h => h) (Or.inl ⟨by rfl, ?_⟩) ?_ ?_
 rotate_left
 ·intro w'
  go_simp
  with_reducible rfl
 rotate_left
 ·simp only [Act.put, List.setIfInBounds_toArray, List.set_cons_zero, List.set_cons_succ]
  rfl
 refine pure_ (i := 2) (N := some 82) (v := ?_) (a' := ?_) #[true, true, true, false, false, false, false, false, false] rfl rfl (by kernel_rfl) (fun _ _ _ h => h) (Or.inl ⟨by rfl, ?_⟩) ?_ ?_
 rotate_left
 ·intro w'
  go_simp
  with_reducible rfl
 rotate_left
 ·simp only [Act.put, List.setIfInBounds_toArray, List.set_cons_zero, List.set_cons_succ]
  rfl
 refine take_ (i := 3) (N := some 83) (v := ?_) (a' := ?_) #[true, true, true, true, false, false, false, false, false] rfl rfl (by kernel_rfl) (fun _ _ _ h => h) (Or.inl ⟨by rfl, ?_⟩) (by first | exact hHeld | assumption) ?_ ?_
 rotate_left
 ·rintro w' ⟨s0, s1, s2, s3, s4, s5⟩
  go_simp
  with_reducible rfl
 rotate_left
 ·simp only [Act.put, List.setIfInBounds_toArray, List.set_cons_zero, List.set_cons_succ]
  rfl
 refine pure_ (i := 5) (N := some 85) (v := ?_) (a' := ?_) #[true, true, true, true, false, true, false, false, false] rfl rfl (by kernel_rfl) (fun _ _ _ h => h) (Or.inl ⟨by rfl, ?_⟩) ?_ ?_
 rotate_left
 ·intro w'
  go_simp
  with_reducible rfl
 rotate_left
 ·simp only [Act.put, List.setIfInBounds_toArray, List.set_cons_zero, List.set_cons_succ]
  rfl
 refine one_ (i := 4) (N := some 84) #[true, true, true, true, true, true, false, false, false] rfl rfl (by kernel_rfl) (by decide) (fun K hK => ?_)
 refine call_ 22 #[.pointer (some ⟨g, 0, none⟩), .int .i64 i1] (by rfl) rfl (by first | (go_simp; done) | (go_simp; rfl)) ?_
 refine (T_Drop i1 T4.out.drew).mono ?_
 rintro e w6 ⟨rfl, hT6, hkt⟩
 have T6 := Aside0.mk hT6
 have M6 := Aside0.mk ((M4.out.below (below_drew1 (Below.refl w5.heap.size w5))).keepT hkt)
 have O6 := Aside0.mk ((O4.out.below (below_drew1 (Below.refl w5.heap.size w5))).ofT hkt)
 have e5B : w6.heap[b5]? = some (.cells #[.int .i64 kd, .int .i64 x, .int .i64 y, .string s, .int .i64 i1, .int .i64 i2] 45 (0, 0)) := hT6.mem (by simp)
 have e54 := (blk_cell e5B 4).trans rfl
 have e8B : w6.heap[b8]? = some (.cells #[.slice A2 r1.length c2, .slice A3 r2.length c3, .int .i64 r3, .int .i64 r4, .int .i64 r5] 41 (0, 0)) := hT6.mem (by simp)
 have e80 := (blk_cell e8B 0).trans rfl
 have e81 := (blk_cell e8B 1).trans rfl
 have e82 := (blk_cell e8B 2).trans rfl
 have e83 := (blk_cell e8B 3).trans rfl
 have e84 := (blk_cell e8B 4).trans rfl
 refine ⟨_, rfl, hK.out _ _ ⟨e80, e81, e82, e83, e84, e54⟩ (fun hHeld => ?_)⟩
 clear hK K hT6 hkt T4 M4 O4
 refine norm_ (a' := ?_) ?_ ?_
 rotate_left
 ·show Act.put _ (some 84) _ = _
  simp only [Act.put, List.setIfInBounds_toArray, List.set_cons_zero, List.set_cons_succ]
  rfl
 refine pure_ (i := 6) (N := some 86) (v := ?_) (a' := ?_) #[true, true, true, true, true, true, true, false, false] rfl rfl (by kernel_rfl) (fun _ _ _ h => h) (Or.inl ⟨by rfl, ?_⟩) ?_ ?_
 rotate_left
 ·intro w'
  go_simp
  with_reducible rfl
 rotate_left
 ·simp only [Act.put, List.setIfInBounds_toArray, List.set_cons_zero, List.set_cons_succ]
  rfl
 refine last_ (i := 7) (N := none) #[true, true, true, true, true, true, true, true, false] rfl rfl (by kernel_rfl) (by decide) (fun K hK => ?_)
 have z6B : w6.heap[b6]? = some (.cells #[.slice none 0 0, .slice none 0 0, .int .i64 0, .int .i64 0, .int .i64 0] 41 (0, 0)) := T6.out.mem (by simp)
 have z60 := (blk_cell z6B 0).trans rfl
 have f60 := blk_frozen z6B 0
 have z61 := (blk_cell z6B 1).trans rfl
 have f61 := blk_frozen z6B 1
 have z62 := (blk_cell z6B 2).trans rfl
 have f62 := blk_frozen z6B 2
 have z63 := (blk_cell z6B 3).trans rfl
 have f63 := blk_frozen z6B 3
 have z64 := (blk_cell z6B 4).trans rfl
 have f64 := blk_frozen z6B 4
 refine skip_ (w1 := ?_) (by rfl) rfl ?_ ?_
 rotate_left
 ·go_simp
  rfl
 refine hK.out _ _ ?_
 clear hK K
 refine pure_ (i := 8) (N := some 7) (v := ?_) (a' := ?_) #[true, true, true, true, true, true, true, true, true] rfl rfl (by kernel_rfl) (fun _ _ _ h => h) (Or.inl ⟨by rfl, ?_⟩) ?_ ?_
 rotate_left
 ·intro w'
  go_simp
  with_reducible rfl
 rotate_left
 ·simp only [Act.put, List.setIfInBounds_toArray, List.set_cons_zero, List.set_cons_succ]
  rfl
 refine done_ (by kernel_rfl) ?_
 go_wp2
 refine bodyPost_ret (results_ct rfl _ _ b6 41 #[.slice A2 r1.length c2, .slice A3 r2.length c3, .int .i64 r3, .int .i64 r4, .int .i64 r5] (0, 0) _ rfl (set5_at w6 b6 _ _ _ _ _ _ _ _ _ _ z6B) Try.underlying41 rfl (by kernel_rfl)) rfl ?_
 exact ⟨_, _, rfl, M6.out.far z6B (by decide) (by decide) (fun k hk => set5_far w6 b6 _ _ _ _ _ k hk), Tr.set5 T6.out (k := b6) (o := .cells #[.slice none 0 0, .slice none 0 0, .int .i64 0, .int .i64 0, .int .i64 0] 41 (0, 0)) (by simp) Lb6.out _ _ _ _ _, O6.out.set5 Gb6.out _ _ _ _ _⟩
theorem stowagelaw08_one.double {w0 w : World} {g : Nat} {n : NetS} {u0 u1 : Value} {l0 : List S60} {l1 : List S71} {a2 a3 a4 kd x y i1 i2 : Int} {s : ByteArray} (hT : Tr w0 w g n []) (hM : MR w w0.heap.size u0 u1 l0 l1) (hk : kd = 3) {r1 : List S60} {r2 : List S71} {r3 r4 r5 : Int} {r6 : Bool} (h : stowageref08_Wires_Double.f l0 l1 a2 a3 a4 i1 = some (r1, r2, r3, r4, r5, r6)) :
  Calls Try.prog 17 #[.pointer (some ⟨g, 0, none⟩), .agg #[u0, u1, .int .i64 a2, .int .i64 a3, .int .i64 a4], .agg #[.int .i64 kd, .int .i64 x, .int .i64 y, .string s, .int .i64 i1, .int .i64 i2]] w fun e w' => ∃ v0 v1, e = .returned (.tuple #[.agg #[v0, v1, .int .i64 r3, .int .i64 r4, .int .i64 r5], .bool ((n.double i1).2 == r6)]) ∧ MR w' w0.heap.size v0 v1 r1 r2 ∧ Tr w0 w' g (n.double i1).1 [] ∧ KeepO w w' := by
 obtain ⟨A0, c0, A1, c1, rfl, rfl⟩ := hM.slices
 have Tw := Aside0.mk hT
 have Mw := Aside0.mk hM
 have Ow := Aside0.mk (KeepO.refl w)
 have HR := Aside0.mk h
 clear hT hM h
 have q0 : (kd == 0) = false := beq_eq_false_iff_ne.mpr (by omega)
 have q1 : (kd == 1) = false := beq_eq_false_iff_ne.mpr (by omega)
 have q2 : (kd == 2) = false := beq_eq_false_iff_ne.mpr (by omega)
 have q3 : (kd == 3) = true := beq_iff_eq.mpr hk
 clear hk
 go_enter Try.func17, Try.ntmps17
 go_wp2_with (first
  | ((with_reducible refine gate_dst (N := 4) rfl ?_); refine box_event ?hg (N := 4) ?hd (cs := #[.slice A0 l0.length c0, .slice A1 l1.length c1, .int .i64 a2, .int .i64 a3, .int .i64 a4]) (t := 41) ?hr ?_; (case hd => rfl); (case hg => rfl); (case hr => first | (go_simp; done) | (go_simp; rfl)); intro b4 hgb4 w1 hbox hb; have Tw1 := Aside0.mk (Tr.box Tw.out hb hgb4 hbox); have Mw1 := Aside0.mk (Mw.out.below hb); have Ow1 := Aside0.mk (Ow.out.below hb); have Gb4 : Aside0 (w.heap.size ≤ b4) := ⟨by rw [hgb4]; exact Ow.out.1⟩; have Lb4 : Aside0 (w0.heap.size ≤ b4) := ⟨by rw [hgb4]; exact Tw.out.1.size⟩; clear Tw Mw Ow hb hbox hgb4)
  | ((with_reducible refine gate_dst (N := 5) rfl ?_); refine box_event ?hg (N := 5) ?hd (cs := #[.int .i64 kd, .int .i64 x, .int .i64 y, .string s, .int .i64 i1, .int .i64 i2]) (t := 45) ?hr ?_; (case hd => rfl); (case hg => rfl); (case hr => first | (go_simp; done) | (go_simp; rfl)); intro b5 hgb5 w2 hbox hb; have Tw2 := Aside0.mk (Tr.box Tw1.out hb hgb5 hbox); have Mw2 := Aside0.mk (Mw1.out.below hb); have Ow2 := Aside0.mk (Ow1.out.below hb); have Gb5 : Aside0 (w.heap.size ≤ b5) := ⟨by rw [hgb5]; exact Ow1.out.1⟩; have Lb5 : Aside0 (w0.heap.size ≤ b5) := ⟨by rw [hgb5]; exact Tw1.out.1.size⟩; clear Tw1 Mw1 Ow1 hb hbox hgb5)
  | ((with_reducible refine gate_dst (N := 6) rfl ?_); refine box_event ?hg (N := 6) ?hd (cs := #[.slice none 0 0, .slice none 0 0, .int .i64 0, .int .i64 0, .int .i64 0]) (t := 41) ?hr ?_; (case hd => rfl); (case hg => rfl); (case hr => first | (go_simp; done) | (go_simp; rfl)); intro b6 hgb6 w3 hbox hb; have Tw3 := Aside0.mk (Tr.box Tw2.out hb hgb6 hbox); have Mw3 := Aside0.mk (Mw2.out.below hb); have Ow3 := Aside0.mk (Ow2.out.below hb); have Gb6 : Aside0 (w.heap.size ≤ b6) := ⟨by rw [hgb6]; exact Ow2.out.1⟩; have Lb6 : Aside0 (w0.heap.size ≤ b6) := ⟨by rw [hgb6]; exact Tw2.out.1.size⟩; have N46 : Aside0 (b4 ≠ b6) := ⟨by rw [hgb6]; exact Nat.ne_of_lt (blk_lt (Tw2.out.mem (k := b4) (o := .cells #[.slice A0 l0.length c0, .slice A1 l1.length c1, .int .i64 a2, .int .i64 a3, .int .i64 a4] 41 (0, 0)) (by simp)))⟩; clear Tw2 Mw2 Ow2 hb hbox hgb6; have d5B : w3.heap[b5]? = some (.cells #[.int .i64 kd, .int .i64 x, .int .i64 y, .string s, .int .i64 i1, .int .i64 i2] 45 (0, 0)) := Tw3.out.mem (by simp); have d50 := (blk_cell d5B 0).trans rfl; have d51 := (blk_cell d5B 1).trans rfl; have d52 := (blk_cell d5B 2).trans rfl; have d53 := (blk_cell d5B 3).trans rfl; have d54 := (blk_cell d5B 4).trans rfl; have d55 := (blk_cell d5B 5).trans rfl; have d4B : w3.heap[b4]? = some (.cells #[.slice A0 l0.length c0, .slice A1 l1.length c1, .int .i64 a2, .int .i64 a3, .int .i64 a4] 41 (0, 0)) := Tw3.out.mem (by simp); have d40 := (blk_cell d4B 0).trans rfl; have d41 := (blk_cell d4B 1).trans rfl; have d42 := (blk_cell d4B 2).trans rfl; have d43 := (blk_cell d4B 3).trans rfl; have d44 := (blk_cell d4B 4).trans rfl))
 refine (R_Double Tw3.out.1 Mw3.out HR.out).mono ?_
 rintro e w4 ⟨v0, v1, rfl, hM, hk, hB⟩
 obtain ⟨A2, c2, A3, c3, rfl, rfl⟩ := hM.slices
 have T4 := Aside0.mk ((Tr.keptM Tw3.out hk hB (notMs (fun q hq => by simp only [List.mem_cons, List.not_mem_nil, or_false] at hq; rcases hq with rfl | rfl | rfl <;> exact ⟨_, _, rfl, by decide, by decide⟩))).push (.cells #[.slice A2 r1.length c2, .slice A3 r2.length c3, .int .i64 r3, .int .i64 r4, .int .i64 r5] 41 (0, 0)))
 have M4 := Aside0.mk (hM.below (below_alloc (Below.refl w4.heap.size w4) (.cells #[.slice A2 r1.length c2, .slice A3 r2.length c3, .int .i64 r3, .int .i64 r4, .int .i64 r5] 41 (0, 0))))
 have O4 := Aside0.mk ((Ow3.out.ofM hk).below (below_alloc (Below.refl w4.heap.size w4) (.cells #[.slice A2 r1.length c2, .slice A3 r2.length c3, .int .i64 r3, .int .i64 r4, .int .i64 r5] 41 (0, 0))))
 clear Tw3 Mw3 Ow3 hM hk hB d4B d40 d41 d42 d43 d44 d5B d50 d51 d52 d53 d54 d55 HR
 go_upto_region 14 with (fail)
 generalize w4.alloc (.cells #[.slice A2 r1.length c2, .slice A3 r2.length c3, .int .i64 r3, .int .i64 r4, .int .i64 r5] 41 (0, 0)) = w5 at T4 M4 O4 ⊢
 generalize w4.heap.size = b8 at T4 ⊢
 have d5B : w5.heap[b5]? = some (.cells #[.int .i64 kd, .int .i64 x, .int .i64 y, .string s, .int .i64 i1, .int .i64 i2] 45 (0, 0)) := T4.out.mem (by simp)
 have d54 := (blk_cell d5B 4).trans rfl
 have d8B : w5.heap[b8]? = some (.cells #[.slice A2 r1.length c2, .slice A3 r2.length c3, .int .i64 r3, .int .i64 r4, .int .i64 r5] 41 (0, 0)) := T4.out.mem (by simp)
 have d80 := (blk_cell d8B 0).trans rfl
 have d81 := (blk_cell d8B 1).trans rfl
 have d82 := (blk_cell d8B 2).trans rfl
 have d83 := (blk_cell d8B 3).trans rfl
 have d84 := (blk_cell d8B 4).trans rfl
 refine start_ (n := 9) (S := (fun w' => w'.cell? ⟨b8, 0, none⟩ = some (.slice A2 r1.length c2) ∧ w'.cell? ⟨b8, 1, none⟩ = some (.slice A3 r2.length c3) ∧ w'.cell? ⟨b8, 2, none⟩ = some (.int .i64 r3) ∧ w'.cell? ⟨b8, 3, none⟩ = some (.int .i64 r4) ∧ w'.cell? ⟨b8, 4, none⟩ = some (.int .i64 r5) ∧ w'.cell? ⟨b5, 4, none⟩ = some (.int .i64 i1))) (ds := [7]) #[false, false, false, false, false, false, false, false, false] (by kernel_rfl) rfl rfl ⟨d80, d81, d82, d83, d84, d54⟩ (fun hHeld => ?_)
 refine take_ (i := 0) (N := some 96) (v := ?_) (a' := ?_) #[true, false, false, false, false, false, false, false, false] rfl rfl (by kernel_rfl) (fun _ _ _ h => h) (Or.inl ⟨by rfl, ?_⟩) (by first | exact hHeld | assumption) ?_ ?_
 rotate_left
 ·rintro w' ⟨s0, s1, s2, s3, s4, s5⟩
  go_simp
  with_reducible rfl
 rotate_left
 ·simp only [Act.put, List.setIfInBounds_toArray, List.set_cons_zero, List.set_cons_succ]
  rfl
 refine pure_ (i := 1) (N := some 97) (v := ?_) (a' := ?_) #[true, true, false, false, false, false, false, false, false] rfl rfl (by kernel_rfl) (fun _ _ _ h => h) (Or.inl ⟨by rfl, ?_⟩) ?_ ?_
 rotate_left
 ·intro w'
  go_simp
  with_reducible rfl
 rotate_left
 ·simp only [Act.put, List.setIfInBounds_toArray, List.set_cons_zero, List.set_cons_succ]
  rfl
 refine pure_ (i := 2) (N := some 98) (v := ?_) (a' := ?_) #[true, true, true, false, false, false, false, false, false] rfl rfl (by kernel_rfl) (fun _ _ _ h => h) (Or.inl ⟨by rfl, ?_⟩) ?_ ?_
 rotate_left
 ·intro w'
  go_simp
  with_reducible rfl
 rotate_left
 ·simp only [Act.put, List.setIfInBounds_toArray, List.set_cons_zero, List.set_cons_succ]
  rfl
 refine take_ (i := 3) (N := some 99) (v := ?_) (a' := ?_) #[true, true, true, true, false, false, false, false, false] rfl rfl (by kernel_rfl) (fun _ _ _ h => h) (Or.inl ⟨by rfl, ?_⟩) (by first | exact hHeld | assumption) ?_ ?_
 rotate_left
 ·rintro w' ⟨s0, s1, s2, s3, s4, s5⟩
  go_simp
  with_reducible rfl
 rotate_left
 ·simp only [Act.put, List.setIfInBounds_toArray, List.set_cons_zero, List.set_cons_succ]
  rfl
 refine pure_ (i := 5) (N := some 101) (v := ?_) (a' := ?_) #[true, true, true, true, false, true, false, false, false] rfl rfl (by kernel_rfl) (fun _ _ _ h => h) (Or.inl ⟨by rfl, ?_⟩) ?_ ?_
 rotate_left
 ·intro w'
  go_simp
  with_reducible rfl
 rotate_left
 ·simp only [Act.put, List.setIfInBounds_toArray, List.set_cons_zero, List.set_cons_succ]
  rfl
 refine one_ (i := 4) (N := some 100) #[true, true, true, true, true, true, false, false, false] rfl rfl (by kernel_rfl) (by decide) (fun K hK => ?_)
 refine call_ 12 #[.pointer (some ⟨g, 0, none⟩), .int .i64 i1] (by rfl) rfl (by first | (go_simp; done) | (go_simp; rfl)) ?_
 refine (T_Double i1 T4.out.drew).mono ?_
 rintro e w6 ⟨rfl, hT6, hkt⟩
 have T6 := Aside0.mk hT6
 have M6 := Aside0.mk ((M4.out.below (below_drew1 (Below.refl w5.heap.size w5))).keepT hkt)
 have O6 := Aside0.mk ((O4.out.below (below_drew1 (Below.refl w5.heap.size w5))).ofT hkt)
 have e5B : w6.heap[b5]? = some (.cells #[.int .i64 kd, .int .i64 x, .int .i64 y, .string s, .int .i64 i1, .int .i64 i2] 45 (0, 0)) := hT6.mem (by simp)
 have e54 := (blk_cell e5B 4).trans rfl
 have e8B : w6.heap[b8]? = some (.cells #[.slice A2 r1.length c2, .slice A3 r2.length c3, .int .i64 r3, .int .i64 r4, .int .i64 r5] 41 (0, 0)) := hT6.mem (by simp)
 have e80 := (blk_cell e8B 0).trans rfl
 have e81 := (blk_cell e8B 1).trans rfl
 have e82 := (blk_cell e8B 2).trans rfl
 have e83 := (blk_cell e8B 3).trans rfl
 have e84 := (blk_cell e8B 4).trans rfl
 refine ⟨_, rfl, hK.out _ _ ⟨e80, e81, e82, e83, e84, e54⟩ (fun hHeld => ?_)⟩
 clear hK K hT6 hkt T4 M4 O4
 refine norm_ (a' := ?_) ?_ ?_
 rotate_left
 ·show Act.put _ (some 100) _ = _
  simp only [Act.put, List.setIfInBounds_toArray, List.set_cons_zero, List.set_cons_succ]
  rfl
 refine pure_ (i := 6) (N := some 102) (v := ?_) (a' := ?_) #[true, true, true, true, true, true, true, false, false] rfl rfl (by kernel_rfl) (fun _ _ _ h => h) (Or.inl ⟨by rfl, ?_⟩) ?_ ?_
 rotate_left
 ·intro w'
  go_simp
  with_reducible rfl
 rotate_left
 ·simp only [Act.put, List.setIfInBounds_toArray, List.set_cons_zero, List.set_cons_succ]
  rfl
 refine last_ (i := 7) (N := none) #[true, true, true, true, true, true, true, true, false] rfl rfl (by kernel_rfl) (by decide) (fun K hK => ?_)
 have z6B : w6.heap[b6]? = some (.cells #[.slice none 0 0, .slice none 0 0, .int .i64 0, .int .i64 0, .int .i64 0] 41 (0, 0)) := T6.out.mem (by simp)
 have z60 := (blk_cell z6B 0).trans rfl
 have f60 := blk_frozen z6B 0
 have z61 := (blk_cell z6B 1).trans rfl
 have f61 := blk_frozen z6B 1
 have z62 := (blk_cell z6B 2).trans rfl
 have f62 := blk_frozen z6B 2
 have z63 := (blk_cell z6B 3).trans rfl
 have f63 := blk_frozen z6B 3
 have z64 := (blk_cell z6B 4).trans rfl
 have f64 := blk_frozen z6B 4
 refine skip_ (w1 := ?_) (by rfl) rfl ?_ ?_
 rotate_left
 ·go_simp
  rfl
 refine hK.out _ _ ?_
 clear hK K
 refine pure_ (i := 8) (N := some 7) (v := ?_) (a' := ?_) #[true, true, true, true, true, true, true, true, true] rfl rfl (by kernel_rfl) (fun _ _ _ h => h) (Or.inl ⟨by rfl, ?_⟩) ?_ ?_
 rotate_left
 ·intro w'
  go_simp
  with_reducible rfl
 rotate_left
 ·simp only [Act.put, List.setIfInBounds_toArray, List.set_cons_zero, List.set_cons_succ]
  rfl
 refine done_ (by kernel_rfl) ?_
 go_wp2
 refine bodyPost_ret (results_ct rfl _ _ b6 41 #[.slice A2 r1.length c2, .slice A3 r2.length c3, .int .i64 r3, .int .i64 r4, .int .i64 r5] (0, 0) _ rfl (set5_at w6 b6 _ _ _ _ _ _ _ _ _ _ z6B) Try.underlying41 rfl (by kernel_rfl)) rfl ?_
 exact ⟨_, _, rfl, M6.out.far z6B (by decide) (by decide) (fun k hk => set5_far w6 b6 _ _ _ _ _ k hk), Tr.set5 T6.out (k := b6) (o := .cells #[.slice none 0 0, .slice none 0 0, .int .i64 0, .int .i64 0, .int .i64 0] 41 (0, 0)) (by simp) Lb6.out _ _ _ _ _, O6.out.set5 Gb6.out _ _ _ _ _⟩
theorem stowagelaw08_one.clear {w0 w : World} {g : Nat} {n : NetS} {u0 u1 : Value} {l0 : List S60} {l1 : List S71} {a2 a3 a4 kd x y i1 i2 : Int} {s : ByteArray} (hT : Tr w0 w g n []) (hM : MR w w0.heap.size u0 u1 l0 l1) (hk : kd = 6) {k : Nat} {r1 : List S60} {r2 : List S71} {r3 r4 r5 r6 : Int} (h : stowageref08_Wires_Clear.f k l0 l1 a2 a3 a4 i1 = some (r1, r2, r3, r4, r5, r6)) :
  Calls Try.prog 17 #[.pointer (some ⟨g, 0, none⟩), .agg #[u0, u1, .int .i64 a2, .int .i64 a3, .int .i64 a4], .agg #[.int .i64 kd, .int .i64 x, .int .i64 y, .string s, .int .i64 i1, .int .i64 i2]] w fun e w' => ∃ v0 v1, e = .returned (.tuple #[.agg #[v0, v1, .int .i64 r3, .int .i64 r4, .int .i64 r5], .bool (((n.l.length : Int) - ((n.l.filter fun x => !(x.f1 == i1)).length : Int)) == r6)]) ∧ MR w' w0.heap.size v0 v1 r1 r2 ∧ Tr w0 w' g (n.lose fun x => x.f1 == i1) [] ∧ KeepO w w' := by
 obtain ⟨A0, c0, A1, c1, rfl, rfl⟩ := hM.slices
 have Tw := Aside0.mk hT
 have Mw := Aside0.mk hM
 have Ow := Aside0.mk (KeepO.refl w)
 have HR := Aside0.mk h
 clear hT hM h
 have q0 : (kd == 0) = false := beq_eq_false_iff_ne.mpr (by omega)
 have q1 : (kd == 1) = false := beq_eq_false_iff_ne.mpr (by omega)
 have q2 : (kd == 2) = false := beq_eq_false_iff_ne.mpr (by omega)
 have q3 : (kd == 3) = false := beq_eq_false_iff_ne.mpr (by omega)
 have q4 : (kd == 4) = false := beq_eq_false_iff_ne.mpr (by omega)
 have q5 : (kd == 5) = false := beq_eq_false_iff_ne.mpr (by omega)
 have q6 : (kd == 6) = true := beq_iff_eq.mpr hk
 clear hk
 go_enter Try.func17, Try.ntmps17
 go_wp2_with (first
  | ((with_reducible refine gate_dst (N := 4) rfl ?_); refine box_event ?hg (N := 4) ?hd (cs := #[.slice A0 l0.length c0, .slice A1 l1.length c1, .int .i64 a2, .int .i64 a3, .int .i64 a4]) (t := 41) ?hr ?_; (case hd => rfl); (case hg => rfl); (case hr => first | (go_simp; done) | (go_simp; rfl)); intro b4 hgb4 w1 hbox hb; have Tw1 := Aside0.mk (Tr.box Tw.out hb hgb4 hbox); have Mw1 := Aside0.mk (Mw.out.below hb); have Ow1 := Aside0.mk (Ow.out.below hb); have Gb4 : Aside0 (w.heap.size ≤ b4) := ⟨by rw [hgb4]; exact Ow.out.1⟩; have Lb4 : Aside0 (w0.heap.size ≤ b4) := ⟨by rw [hgb4]; exact Tw.out.1.size⟩; clear Tw Mw Ow hb hbox hgb4)
  | ((with_reducible refine gate_dst (N := 5) rfl ?_); refine box_event ?hg (N := 5) ?hd (cs := #[.int .i64 kd, .int .i64 x, .int .i64 y, .string s, .int .i64 i1, .int .i64 i2]) (t := 45) ?hr ?_; (case hd => rfl); (case hg => rfl); (case hr => first | (go_simp; done) | (go_simp; rfl)); intro b5 hgb5 w2 hbox hb; have Tw2 := Aside0.mk (Tr.box Tw1.out hb hgb5 hbox); have Mw2 := Aside0.mk (Mw1.out.below hb); have Ow2 := Aside0.mk (Ow1.out.below hb); have Gb5 : Aside0 (w.heap.size ≤ b5) := ⟨by rw [hgb5]; exact Ow1.out.1⟩; have Lb5 : Aside0 (w0.heap.size ≤ b5) := ⟨by rw [hgb5]; exact Tw1.out.1.size⟩; clear Tw1 Mw1 Ow1 hb hbox hgb5)
  | ((with_reducible refine gate_dst (N := 6) rfl ?_); refine box_event ?hg (N := 6) ?hd (cs := #[.slice none 0 0, .slice none 0 0, .int .i64 0, .int .i64 0, .int .i64 0]) (t := 41) ?hr ?_; (case hd => rfl); (case hg => rfl); (case hr => first | (go_simp; done) | (go_simp; rfl)); intro b6 hgb6 w3 hbox hb; have Tw3 := Aside0.mk (Tr.box Tw2.out hb hgb6 hbox); have Mw3 := Aside0.mk (Mw2.out.below hb); have Ow3 := Aside0.mk (Ow2.out.below hb); have Gb6 : Aside0 (w.heap.size ≤ b6) := ⟨by rw [hgb6]; exact Ow2.out.1⟩; have Lb6 : Aside0 (w0.heap.size ≤ b6) := ⟨by rw [hgb6]; exact Tw2.out.1.size⟩; have N46 : Aside0 (b4 ≠ b6) := ⟨by rw [hgb6]; exact Nat.ne_of_lt (blk_lt (Tw2.out.mem (k := b4) (o := .cells #[.slice A0 l0.length c0, .slice A1 l1.length c1, .int .i64 a2, .int .i64 a3, .int .i64 a4] 41 (0, 0)) (by simp)))⟩; clear Tw2 Mw2 Ow2 hb hbox hgb6; have d5B : w3.heap[b5]? = some (.cells #[.int .i64 kd, .int .i64 x, .int .i64 y, .string s, .int .i64 i1, .int .i64 i2] 45 (0, 0)) := Tw3.out.mem (by simp); have d50 := (blk_cell d5B 0).trans rfl; have d51 := (blk_cell d5B 1).trans rfl; have d52 := (blk_cell d5B 2).trans rfl; have d53 := (blk_cell d5B 3).trans rfl; have d54 := (blk_cell d5B 4).trans rfl; have d55 := (blk_cell d5B 5).trans rfl; have d4B : w3.heap[b4]? = some (.cells #[.slice A0 l0.length c0, .slice A1 l1.length c1, .int .i64 a2, .int .i64 a3, .int .i64 a4] 41 (0, 0)) := Tw3.out.mem (by simp); have d40 := (blk_cell d4B 0).trans rfl; have d41 := (blk_cell d4B 1).trans rfl; have d42 := (blk_cell d4B 2).trans rfl; have d43 := (blk_cell d4B 3).trans rfl; have d44 := (blk_cell d4B 4).trans rfl))
 refine (R_Clear Tw3.out.1 Mw3.out HR.out).mono ?_
 rintro e w4 ⟨v0, v1, rfl, hM, hk, hB⟩
 obtain ⟨A2, c2, A3, c3, rfl, rfl⟩ := hM.slices
 have T4 := Aside0.mk ((Tr.keptM Tw3.out hk hB (notMs (fun q hq => by simp only [List.mem_cons, List.not_mem_nil, or_false] at hq; rcases hq with rfl | rfl | rfl <;> exact ⟨_, _, rfl, by decide, by decide⟩))).push (.cells #[.slice A2 r1.length c2, .slice A3 r2.length c3, .int .i64 r3, .int .i64 r4, .int .i64 r5] 41 (0, 0)))
 have M4 := Aside0.mk (hM.below (below_alloc (Below.refl w4.heap.size w4) (.cells #[.slice A2 r1.length c2, .slice A3 r2.length c3, .int .i64 r3, .int .i64 r4, .int .i64 r5] 41 (0, 0))))
 have O4 := Aside0.mk ((Ow3.out.ofM hk).below (below_alloc (Below.refl w4.heap.size w4) (.cells #[.slice A2 r1.length c2, .slice A3 r2.length c3, .int .i64 r3, .int .i64 r4, .int .i64 r5] 41 (0, 0))))
 clear Tw3 Mw3 Ow3 hM hk hB d4B d40 d41 d42 d43 d44 d5B d50 d51 d52 d53 d54 d55 HR
 go_upto_region 24 with (fail)
 generalize w4.alloc (.cells #[.slice A2 r1.length c2, .slice A3 r2.length c3, .int .i64 r3, .int .i64 r4, .int .i64 r5] 41 (0, 0)) = w5 at T4 M4 O4 ⊢
 generalize w4.heap.size = b8 at T4 ⊢
 have d5B : w5.heap[b5]? = some (.cells #[.int .i64 kd, .int .i64 x, .int .i64 y, .string s, .int .i64 i1, .int .i64 i2] 45 (0, 0)) := T4.out.mem (by simp)
 have d54 := (blk_cell d5B 4).trans rfl
 have d8B : w5.heap[b8]? = some (.cells #[.slice A2 r1.length c2, .slice A3 r2.length c3, .int .i64 r3, .int .i64 r4, .int .i64 r5] 41 (0, 0)) := T4.out.mem (by simp)
 have d80 := (blk_cell d8B 0).trans rfl
 have d81 := (blk_cell d8B 1).trans rfl
 have d82 := (blk_cell d8B 2).trans rfl
 have d83 := (blk_cell d8B 3).trans rfl
 have d84 := (blk_cell d8B 4).trans rfl
 refine start_ (n := 9) (S := (fun w' => w'.cell? ⟨b8, 0, none⟩ = some (.slice A2 r1.length c2) ∧ w'.cell? ⟨b8, 1, none⟩ = some (.slice A3 r2.length c3) ∧ w'.cell? ⟨b8, 2, none⟩ = some (.int .i64 r3) ∧ w'.cell? ⟨b8, 3, none⟩ = some (.int .i64 r4) ∧ w'.cell? ⟨b8, 4, none⟩ = some (.int .i64 r5) ∧ w'.cell? ⟨b5, 4, none⟩ = some (.int .i64 i1))) (ds := [7]) #[false, false, false, false, false, false, false, false, false] (by kernel_rfl) rfl rfl ⟨d80, d81, d82, d83, d84, d54⟩ (fun hHeld => ?_)
 refine take_ (i := 0) (N := some 138) (v := ?_) (a' := ?_) #[true, false, false, false, false, false, false, false, false] rfl rfl (by kernel_rfl) (fun _ _ _ h => h) (Or.inl ⟨by rfl, ?_⟩) (by first | exact hHeld | assumption) ?_ ?_
 rotate_left
 ·rintro w' ⟨s0, s1, s2, s3, s4, s5⟩
  go_simp
  with_reducible rfl
 rotate_left
 ·simp only [Act.put, List.setIfInBounds_toArray, List.set_cons_zero, List.set_cons_succ]
  rfl
 refine pure_ (i := 1) (N := some 139) (v := ?_) (a' := ?_) #[true, true, false, false, false, false, false, false, false] rfl rfl (by kernel_rfl) (fun _ _ _ h => h) (Or.inl ⟨by rfl, ?_⟩) ?_ ?_
 rotate_left
 ·intro w'
  go_simp
  with_reducible rfl
 rotate_left
 ·simp only [Act.put, List.setIfInBounds_toArray, List.set_cons_zero, List.set_cons_succ]
  rfl
 refine pure_ (i := 2) (N := some 140) (v := ?_) (a' := ?_) #[true, true, true, false, false, false, false, false, false] rfl rfl (by kernel_rfl) (fun _ _ _ h => h) (Or.inl ⟨by rfl, ?_⟩) ?_ ?_
 rotate_left
 ·intro w'
  go_simp
  with_reducible rfl
 rotate_left
 ·simp only [Act.put, List.setIfInBounds_toArray, List.set_cons_zero, List.set_cons_succ]
  rfl
 refine take_ (i := 3) (N := some 141) (v := ?_) (a' := ?_) #[true, true, true, true, false, false, false, false, false] rfl rfl (by kernel_rfl) (fun _ _ _ h => h) (Or.inl ⟨by rfl, ?_⟩) (by first | exact hHeld | assumption) ?_ ?_
 rotate_left
 ·rintro w' ⟨s0, s1, s2, s3, s4, s5⟩
  go_simp
  with_reducible rfl
 rotate_left
 ·simp only [Act.put, List.setIfInBounds_toArray, List.set_cons_zero, List.set_cons_succ]
  rfl
 refine pure_ (i := 5) (N := some 143) (v := ?_) (a' := ?_) #[true, true, true, true, false, true, false, false, false] rfl rfl (by kernel_rfl) (fun _ _ _ h => h) (Or.inl ⟨by rfl, ?_⟩) ?_ ?_
 rotate_left
 ·intro w'
  go_simp
  with_reducible rfl
 rotate_left
 ·simp only [Act.put, List.setIfInBounds_toArray, List.set_cons_zero, List.set_cons_succ]
  rfl
 refine one_ (i := 4) (N := some 142) #[true, true, true, true, true, true, false, false, false] rfl rfl (by kernel_rfl) (by decide) (fun K hK => ?_)
 refine call_ 23 #[.pointer (some ⟨g, 0, none⟩), .int .i64 i1] (by rfl) rfl (by first | (go_simp; done) | (go_simp; rfl)) ?_
 refine (T_Clear i1 T4.out.drew).mono ?_
 rintro e w6 ⟨rfl, hT6, hkt⟩
 have T6 := Aside0.mk hT6
 have M6 := Aside0.mk ((M4.out.below (below_drew1 (Below.refl w5.heap.size w5))).keepT hkt)
 have O6 := Aside0.mk ((O4.out.below (below_drew1 (Below.refl w5.heap.size w5))).ofT hkt)
 have e5B : w6.heap[b5]? = some (.cells #[.int .i64 kd, .int .i64 x, .int .i64 y, .string s, .int .i64 i1, .int .i64 i2] 45 (0, 0)) := hT6.mem (by simp)
 have e54 := (blk_cell e5B 4).trans rfl
 have e8B : w6.heap[b8]? = some (.cells #[.slice A2 r1.length c2, .slice A3 r2.length c3, .int .i64 r3, .int .i64 r4, .int .i64 r5] 41 (0, 0)) := hT6.mem (by simp)
 have e80 := (blk_cell e8B 0).trans rfl
 have e81 := (blk_cell e8B 1).trans rfl
 have e82 := (blk_cell e8B 2).trans rfl
 have e83 := (blk_cell e8B 3).trans rfl
 have e84 := (blk_cell e8B 4).trans rfl
 refine ⟨_, rfl, hK.out _ _ ⟨e80, e81, e82, e83, e84, e54⟩ (fun hHeld => ?_)⟩
 clear hK K hT6 hkt T4 M4 O4
 refine norm_ (a' := ?_) ?_ ?_
 rotate_left
 ·show Act.put _ (some 142) _ = _
  simp only [Act.put, List.setIfInBounds_toArray, List.set_cons_zero, List.set_cons_succ]
  rfl
 refine pure_ (i := 6) (N := some 144) (v := ?_) (a' := ?_) #[true, true, true, true, true, true, true, false, false] rfl rfl (by kernel_rfl) (fun _ _ _ h => h) (Or.inl ⟨by rfl, ?_⟩) ?_ ?_
 rotate_left
 ·intro w'
  go_simp
  with_reducible rfl
 rotate_left
 ·simp only [Act.put, List.setIfInBounds_toArray, List.set_cons_zero, List.set_cons_succ]
  rfl
 refine last_ (i := 7) (N := none) #[true, true, true, true, true, true, true, true, false] rfl rfl (by kernel_rfl) (by decide) (fun K hK => ?_)
 have z6B : w6.heap[b6]? = some (.cells #[.slice none 0 0, .slice none 0 0, .int .i64 0, .int .i64 0, .int .i64 0] 41 (0, 0)) := T6.out.mem (by simp)
 have z60 := (blk_cell z6B 0).trans rfl
 have f60 := blk_frozen z6B 0
 have z61 := (blk_cell z6B 1).trans rfl
 have f61 := blk_frozen z6B 1
 have z62 := (blk_cell z6B 2).trans rfl
 have f62 := blk_frozen z6B 2
 have z63 := (blk_cell z6B 3).trans rfl
 have f63 := blk_frozen z6B 3
 have z64 := (blk_cell z6B 4).trans rfl
 have f64 := blk_frozen z6B 4
 refine skip_ (w1 := ?_) (by rfl) rfl ?_ ?_
 rotate_left
 ·go_simp
  rfl
 refine hK.out _ _ ?_
 clear hK K
 refine pure_ (i := 8) (N := some 7) (v := ?_) (a' := ?_) #[true, true, true, true, true, true, true, true, true] rfl rfl (by kernel_rfl) (fun _ _ _ h => h) (Or.inl ⟨by rfl, ?_⟩) ?_ ?_
 rotate_left
 ·intro w'
  go_simp
  with_reducible rfl
 rotate_left
 ·simp only [Act.put, List.setIfInBounds_toArray, List.set_cons_zero, List.set_cons_succ]
  rfl
 refine done_ (by kernel_rfl) ?_
 go_wp2
 refine bodyPost_ret (results_ct rfl _ _ b6 41 #[.slice A2 r1.length c2, .slice A3 r2.length c3, .int .i64 r3, .int .i64 r4, .int .i64 r5] (0, 0) _ rfl (set5_at w6 b6 _ _ _ _ _ _ _ _ _ _ z6B) Try.underlying41 rfl (by kernel_rfl)) rfl ?_
 exact ⟨_, _, rfl, M6.out.far z6B (by decide) (by decide) (fun k hk => set5_far w6 b6 _ _ _ _ _ k hk), Tr.set5 T6.out (k := b6) (o := .cells #[.slice none 0 0, .slice none 0 0, .int .i64 0, .int .i64 0, .int .i64 0] 41 (0, 0)) (by simp) Lb6.out _ _ _ _ _, O6.out.set5 Gb6.out _ _ _ _ _⟩
theorem stowagelaw08_one.cut {w0 w : World} {g : Nat} {n : NetS} {u0 u1 : Value} {l0 : List S60} {l1 : List S71} {a2 a3 a4 kd x y i1 i2 : Int} {s : ByteArray} (hT : Tr w0 w g n []) (hM : MR w w0.heap.size u0 u1 l0 l1) (hk : kd = 4) {k : Nat} {r1 : List S60} {r2 : List S71} {r3 r4 r5 r6 : Int} (h : stowageref08_Wires_Cut.f k l0 l1 a2 a3 a4 i1 i2 = some (r1, r2, r3, r4, r5, r6)) :
  Calls Try.prog 17 #[.pointer (some ⟨g, 0, none⟩), .agg #[u0, u1, .int .i64 a2, .int .i64 a3, .int .i64 a4], .agg #[.int .i64 kd, .int .i64 x, .int .i64 y, .string s, .int .i64 i1, .int .i64 i2]] w fun e w' => ∃ v0 v1, e = .returned (.tuple #[.agg #[v0, v1, .int .i64 r3, .int .i64 r4, .int .i64 r5], .bool ((n.cutN i1 i2).2 == r6)]) ∧ MR w' w0.heap.size v0 v1 r1 r2 ∧ Tr w0 w' g (n.cutN i1 i2).1 [] ∧ KeepO w w' := by
 obtain ⟨A0, c0, A1, c1, rfl, rfl⟩ := hM.slices
 have Tw := Aside0.mk hT
 have Mw := Aside0.mk hM
 have Ow := Aside0.mk (KeepO.refl w)
 have HR := Aside0.mk h
 clear hT hM h
 have q0 : (kd == 0) = false := beq_eq_false_iff_ne.mpr (by omega)
 have q1 : (kd == 1) = false := beq_eq_false_iff_ne.mpr (by omega)
 have q2 : (kd == 2) = false := beq_eq_false_iff_ne.mpr (by omega)
 have q3 : (kd == 3) = false := beq_eq_false_iff_ne.mpr (by omega)
 have q4 : (kd == 4) = true := beq_iff_eq.mpr hk
 clear hk
 go_enter Try.func17, Try.ntmps17
 go_wp2_with (first
  | ((with_reducible refine gate_dst (N := 4) rfl ?_); refine box_event ?hg (N := 4) ?hd (cs := #[.slice A0 l0.length c0, .slice A1 l1.length c1, .int .i64 a2, .int .i64 a3, .int .i64 a4]) (t := 41) ?hr ?_; (case hd => rfl); (case hg => rfl); (case hr => first | (go_simp; done) | (go_simp; rfl)); intro b4 hgb4 w1 hbox hb; have Tw1 := Aside0.mk (Tr.box Tw.out hb hgb4 hbox); have Mw1 := Aside0.mk (Mw.out.below hb); have Ow1 := Aside0.mk (Ow.out.below hb); have Gb4 : Aside0 (w.heap.size ≤ b4) := ⟨by rw [hgb4]; exact Ow.out.1⟩; have Lb4 : Aside0 (w0.heap.size ≤ b4) := ⟨by rw [hgb4]; exact Tw.out.1.size⟩; clear Tw Mw Ow hb hbox hgb4)
  | ((with_reducible refine gate_dst (N := 5) rfl ?_); refine box_event ?hg (N := 5) ?hd (cs := #[.int .i64 kd, .int .i64 x, .int .i64 y, .string s, .int .i64 i1, .int .i64 i2]) (t := 45) ?hr ?_; (case hd => rfl); (case hg => rfl); (case hr => first | (go_simp; done) | (go_simp; rfl)); intro b5 hgb5 w2 hbox hb; have Tw2 := Aside0.mk (Tr.box Tw1.out hb hgb5 hbox); have Mw2 := Aside0.mk (Mw1.out.below hb); have Ow2 := Aside0.mk (Ow1.out.below hb); have Gb5 : Aside0 (w.heap.size ≤ b5) := ⟨by rw [hgb5]; exact Ow1.out.1⟩; have Lb5 : Aside0 (w0.heap.size ≤ b5) := ⟨by rw [hgb5]; exact Tw1.out.1.size⟩; clear Tw1 Mw1 Ow1 hb hbox hgb5)
  | ((with_reducible refine gate_dst (N := 6) rfl ?_); refine box_event ?hg (N := 6) ?hd (cs := #[.slice none 0 0, .slice none 0 0, .int .i64 0, .int .i64 0, .int .i64 0]) (t := 41) ?hr ?_; (case hd => rfl); (case hg => rfl); (case hr => first | (go_simp; done) | (go_simp; rfl)); intro b6 hgb6 w3 hbox hb; have Tw3 := Aside0.mk (Tr.box Tw2.out hb hgb6 hbox); have Mw3 := Aside0.mk (Mw2.out.below hb); have Ow3 := Aside0.mk (Ow2.out.below hb); have Gb6 : Aside0 (w.heap.size ≤ b6) := ⟨by rw [hgb6]; exact Ow2.out.1⟩; have Lb6 : Aside0 (w0.heap.size ≤ b6) := ⟨by rw [hgb6]; exact Tw2.out.1.size⟩; have N46 : Aside0 (b4 ≠ b6) := ⟨by rw [hgb6]; exact Nat.ne_of_lt (blk_lt (Tw2.out.mem (k := b4) (o := .cells #[.slice A0 l0.length c0, .slice A1 l1.length c1, .int .i64 a2, .int .i64 a3, .int .i64 a4] 41 (0, 0)) (by simp)))⟩; clear Tw2 Mw2 Ow2 hb hbox hgb6; have d5B : w3.heap[b5]? = some (.cells #[.int .i64 kd, .int .i64 x, .int .i64 y, .string s, .int .i64 i1, .int .i64 i2] 45 (0, 0)) := Tw3.out.mem (by simp); have d50 := (blk_cell d5B 0).trans rfl; have d51 := (blk_cell d5B 1).trans rfl; have d52 := (blk_cell d5B 2).trans rfl; have d53 := (blk_cell d5B 3).trans rfl; have d54 := (blk_cell d5B 4).trans rfl; have d55 := (blk_cell d5B 5).trans rfl; have d4B : w3.heap[b4]? = some (.cells #[.slice A0 l0.length c0, .slice A1 l1.length c1, .int .i64 a2, .int .i64 a3, .int .i64 a4] 41 (0, 0)) := Tw3.out.mem (by simp); have d40 := (blk_cell d4B 0).trans rfl; have d41 := (blk_cell d4B 1).trans rfl; have d42 := (blk_cell d4B 2).trans rfl; have d43 := (blk_cell d4B 3).trans rfl; have d44 := (blk_cell d4B 4).trans rfl))
 refine (R_Cut Tw3.out.1 Mw3.out HR.out).mono ?_
 rintro e w4 ⟨v0, v1, rfl, hM, hk, hB⟩
 obtain ⟨A2, c2, A3, c3, rfl, rfl⟩ := hM.slices
 have T4 := Aside0.mk ((Tr.keptM Tw3.out hk hB (notMs (fun q hq => by simp only [List.mem_cons, List.not_mem_nil, or_false] at hq; rcases hq with rfl | rfl | rfl <;> exact ⟨_, _, rfl, by decide, by decide⟩))).push (.cells #[.slice A2 r1.length c2, .slice A3 r2.length c3, .int .i64 r3, .int .i64 r4, .int .i64 r5] 41 (0, 0)))
 have M4 := Aside0.mk (hM.below (below_alloc (Below.refl w4.heap.size w4) (.cells #[.slice A2 r1.length c2, .slice A3 r2.length c3, .int .i64 r3, .int .i64 r4, .int .i64 r5] 41 (0, 0))))
 have O4 := Aside0.mk ((Ow3.out.ofM hk).below (below_alloc (Below.refl w4.heap.size w4) (.cells #[.slice A2 r1.length c2, .slice A3 r2.length c3, .int .i64 r3, .int .i64 r4, .int .i64 r5] 41 (0, 0))))
 clear Tw3 Mw3 Ow3 hM hk hB d4B d40 d41 d42 d43 d44 d5B d50 d51 d52 d53 d54 d55 HR
 go_upto_region 17 with (fail)
 generalize w4.alloc (.cells #[.slice A2 r1.length c2, .slice A3 r2.length c3, .int .i64 r3, .int .i64 r4, .int .i64 r5] 41 (0, 0)) = w5 at T4 M4 O4 ⊢
 generalize w4.heap.size = b8 at T4 ⊢
 have d5B : w5.heap[b5]? = some (.cells #[.int .i64 kd, .int .i64 x, .int .i64 y, .string s, .int .i64 i1, .int .i64 i2] 45 (0, 0)) := T4.out.mem (by simp)
 have d54 := (blk_cell d5B 4).trans rfl
 have d55 := (blk_cell d5B 5).trans rfl
 have d8B : w5.heap[b8]? = some (.cells #[.slice A2 r1.length c2, .slice A3 r2.length c3, .int .i64 r3, .int .i64 r4, .int .i64 r5] 41 (0, 0)) := T4.out.mem (by simp)
 have d80 := (blk_cell d8B 0).trans rfl
 have d81 := (blk_cell d8B 1).trans rfl
 have d82 := (blk_cell d8B 2).trans rfl
 have d83 := (blk_cell d8B 3).trans rfl
 have d84 := (blk_cell d8B 4).trans rfl
 refine start_ (n := 11) (S := (fun w' => w'.cell? ⟨b8, 0, none⟩ = some (.slice A2 r1.length c2) ∧ w'.cell? ⟨b8, 1, none⟩ = some (.slice A3 r2.length c3) ∧ w'.cell? ⟨b8, 2, none⟩ = some (.int .i64 r3) ∧ w'.cell? ⟨b8, 3, none⟩ = some (.int .i64 r4) ∧ w'.cell? ⟨b8, 4, none⟩ = some (.int .i64 r5) ∧ w'.cell? ⟨b5, 4, none⟩ = some (.int .i64 i1) ∧ w'.cell? ⟨b5, 5, none⟩ = some (.int .i64 i2))) (ds := [9]) #[false, false, false, false, false, false, false, false, false, false, false] (by kernel_rfl) rfl rfl ⟨d80, d81, d82, d83, d84, d54, d55⟩ (fun hHeld => ?_)
 refine take_ (i := 0) (N := some 114) (v := ?_) (a' := ?_) #[true, false, false, false, false, false, false, false, false, false, false] rfl rfl (by kernel_rfl) (fun _ _ _ h => h) (Or.inl ⟨by rfl, ?_⟩) (by first | exact hHeld | assumption) ?_ ?_
 rotate_left
 ·rintro w' ⟨s0, s1, s2, s3, s4, s5, s6⟩
  go_simp
  with_reducible rfl
 rotate_left
 ·simp only [Act.put, List.setIfInBounds_toArray, List.set_cons_zero, List.set_cons_succ]
  rfl
 refine pure_ (i := 1) (N := some 115) (v := ?_) (a' := ?_) #[true, true, false, false, false, false, false, false, false, false, false] rfl rfl (by kernel_rfl) (fun _ _ _ h => h) (Or.inl ⟨by rfl, ?_⟩) ?_ ?_
 rotate_left
 ·intro w'
  go_simp
  with_reducible rfl
 rotate_left
 ·simp only [Act.put, List.setIfInBounds_toArray, List.set_cons_zero, List.set_cons_succ]
  rfl
 refine pure_ (i := 2) (N := some 116) (v := ?_) (a' := ?_) #[true, true, true, false, false, false, false, false, false, false, false] rfl rfl (by kernel_rfl) (fun _ _ _ h => h) (Or.inl ⟨by rfl, ?_⟩) ?_ ?_
 rotate_left
 ·intro w'
  go_simp
  with_reducible rfl
 rotate_left
 ·simp only [Act.put, List.setIfInBounds_toArray, List.set_cons_zero, List.set_cons_succ]
  rfl
 refine take_ (i := 3) (N := some 117) (v := ?_) (a' := ?_) #[true, true, true, true, false, false, false, false, false, false, false] rfl rfl (by kernel_rfl) (fun _ _ _ h => h) (Or.inl ⟨by rfl, ?_⟩) (by first | exact hHeld | assumption) ?_ ?_
 rotate_left
 ·rintro w' ⟨s0, s1, s2, s3, s4, s5, s6⟩
  go_simp
  with_reducible rfl
 rotate_left
 ·simp only [Act.put, List.setIfInBounds_toArray, List.set_cons_zero, List.set_cons_succ]
  rfl
 refine pure_ (i := 4) (N := some 118) (v := ?_) (a' := ?_) #[true, true, true, true, true, false, false, false, false, false, false] rfl rfl (by kernel_rfl) (fun _ _ _ h => h) (Or.inl ⟨by rfl, ?_⟩) ?_ ?_
 rotate_left
 ·intro w'
  go_simp
  with_reducible rfl
 rotate_left
 ·simp only [Act.put, List.setIfInBounds_toArray, List.set_cons_zero, List.set_cons_succ]
  rfl
 refine take_ (i := 5) (N := some 119) (v := ?_) (a' := ?_) #[true, true, true, true, true, true, false, false, false, false, false] rfl rfl (by kernel_rfl) (fun _ _ _ h => h) (Or.inl ⟨by rfl, ?_⟩) (by first | exact hHeld | assumption) ?_ ?_
 rotate_left
 ·rintro w' ⟨s0, s1, s2, s3, s4, s5, s6⟩
  go_simp
  with_reducible rfl
 rotate_left
 ·simp only [Act.put, List.setIfInBounds_toArray, List.set_cons_zero, List.set_cons_succ]
  rfl
 refine pure_ (i := 7) (N := some 121) (v := ?_) (a' := ?_) #[true, true, true, true, true, true, false, true, false, false, false] rfl rfl (by kernel_rfl) (fun _ _ _ h => h) (Or.inl ⟨by rfl, ?_⟩) ?_ ?_
 rotate_left
 ·intro w'
  go_simp
  with_reducible rfl
 rotate_left
 ·simp only [Act.put, List.setIfInBounds_toArray, List.set_cons_zero, List.set_cons_succ]
  rfl
 refine one_ (i := 6) (N := some 120) #[true, true, true, true, true, true, true, true, false, false, false] rfl rfl (by kernel_rfl) (by decide) (fun K hK => ?_)
 refine call_ 15 #[.pointer (some ⟨g, 0, none⟩), .int .i64 i1, .int .i64 i2] (by rfl) rfl (by first | (go_simp; done) | (go_simp; rfl)) ?_
 refine (T_Cut i1 i2 T4.out.drew).mono ?_
 rintro e w6 ⟨rfl, hT6, hkt⟩
 have T6 := Aside0.mk hT6
 have M6 := Aside0.mk ((M4.out.below (below_drew1 (Below.refl w5.heap.size w5))).keepT hkt)
 have O6 := Aside0.mk ((O4.out.below (below_drew1 (Below.refl w5.heap.size w5))).ofT hkt)
 have e5B : w6.heap[b5]? = some (.cells #[.int .i64 kd, .int .i64 x, .int .i64 y, .string s, .int .i64 i1, .int .i64 i2] 45 (0, 0)) := hT6.mem (by simp)
 have e54 := (blk_cell e5B 4).trans rfl
 have e55 := (blk_cell e5B 5).trans rfl
 have e8B : w6.heap[b8]? = some (.cells #[.slice A2 r1.length c2, .slice A3 r2.length c3, .int .i64 r3, .int .i64 r4, .int .i64 r5] 41 (0, 0)) := hT6.mem (by simp)
 have e80 := (blk_cell e8B 0).trans rfl
 have e81 := (blk_cell e8B 1).trans rfl
 have e82 := (blk_cell e8B 2).trans rfl
 have e83 := (blk_cell e8B 3).trans rfl
 have e84 := (blk_cell e8B 4).trans rfl
 refine ⟨_, rfl, hK.out _ _ ⟨e80, e81, e82, e83, e84, e54, e55⟩ (fun hHeld => ?_)⟩
 clear hK K hT6 hkt T4 M4 O4
 refine norm_ (a' := ?_) ?_ ?_
 rotate_left
 ·show Act.put _ (some 120) _ = _
  simp only [Act.put, List.setIfInBounds_toArray, List.set_cons_zero, List.set_cons_succ]
  rfl
 refine pure_ (i := 8) (N := some 122) (v := ?_) (a' := ?_) #[true, true, true, true, true, true, true, true, true, false, false] rfl rfl (by kernel_rfl) (fun _ _ _ h => h) (Or.inl ⟨by rfl, ?_⟩) ?_ ?_
 rotate_left
 ·intro w'
  go_simp
  with_reducible rfl
 rotate_left
 ·simp only [Act.put, List.setIfInBounds_toArray, List.set_cons_zero, List.set_cons_succ]
  rfl
 refine last_ (i := 9) (N := none) #[true, true, true, true, true, true, true, true, true, true, false] rfl rfl (by kernel_rfl) (by decide) (fun K hK => ?_)
 have z6B : w6.heap[b6]? = some (.cells #[.slice none 0 0, .slice none 0 0, .int .i64 0, .int .i64 0, .int .i64 0] 41 (0, 0)) := T6.out.mem (by simp)
 have z60 := (blk_cell z6B 0).trans rfl
 have f60 := blk_frozen z6B 0
 have z61 := (blk_cell z6B 1).trans rfl
 have f61 := blk_frozen z6B 1
 have z62 := (blk_cell z6B 2).trans rfl
 have f62 := blk_frozen z6B 2
 have z63 := (blk_cell z6B 3).trans rfl
 have f63 := blk_frozen z6B 3
 have z64 := (blk_cell z6B 4).trans rfl
 have f64 := blk_frozen z6B 4
 refine skip_ (w1 := ?_) (by rfl) rfl ?_ ?_
 rotate_left
 ·go_simp
  rfl
 refine hK.out _ _ ?_
 clear hK K
 refine pure_ (i := 10) (N := some 7) (v := ?_) (a' := ?_) #[true, true, true, true, true, true, true, true, true, true, true] rfl rfl (by kernel_rfl) (fun _ _ _ h => h) (Or.inl ⟨by rfl, ?_⟩) ?_ ?_
 rotate_left
 ·intro w'
  go_simp
  with_reducible rfl
 rotate_left
 ·simp only [Act.put, List.setIfInBounds_toArray, List.set_cons_zero, List.set_cons_succ]
  rfl
 refine done_ (by kernel_rfl) ?_
 go_wp2
 refine bodyPost_ret (results_ct rfl _ _ b6 41 #[.slice A2 r1.length c2, .slice A3 r2.length c3, .int .i64 r3, .int .i64 r4, .int .i64 r5] (0, 0) _ rfl (set5_at w6 b6 _ _ _ _ _ _ _ _ _ _ z6B) Try.underlying41 rfl (by kernel_rfl)) rfl ?_
 exact ⟨_, _, rfl, M6.out.far z6B (by decide) (by decide) (fun k hk => set5_far w6 b6 _ _ _ _ _ k hk), Tr.set5 T6.out (k := b6) (o := .cells #[.slice none 0 0, .slice none 0 0, .int .i64 0, .int .i64 0, .int .i64 0] 41 (0, 0)) (by simp) Lb6.out _ _ _ _ _, O6.out.set5 Gb6.out _ _ _ _ _⟩
theorem stowagelaw08_one.heal {w0 w : World} {g : Nat} {n : NetS} {u0 u1 : Value} {l0 : List S60} {l1 : List S71} {a2 a3 a4 kd x y i1 i2 : Int} {s : ByteArray} (hT : Tr w0 w g n []) (hM : MR w w0.heap.size u0 u1 l0 l1) (hk : kd = 5) :
  Calls Try.prog 17 #[.pointer (some ⟨g, 0, none⟩), .agg #[u0, u1, .int .i64 a2, .int .i64 a3, .int .i64 a4], .agg #[.int .i64 kd, .int .i64 x, .int .i64 y, .string s, .int .i64 i1, .int .i64 i2]] w fun e w' => ∃ v0 v1, e = .returned (.tuple #[.agg #[v0, v1, .int .i64 a2, .int .i64 a3, .int .i64 a4], .bool true]) ∧ MR w' w0.heap.size v0 v1 l0 [] ∧ Tr w0 w' g { n with cut := List.replicate 49 false } [] ∧ KeepO w w' := by
 obtain ⟨A0, c0, A1, c1, rfl, rfl⟩ := hM.slices
 have Tw := Aside0.mk hT
 have Mw := Aside0.mk hM
 have Ow := Aside0.mk (KeepO.refl w)
 clear hT hM
 have q0 : (kd == 0) = false := beq_eq_false_iff_ne.mpr (by omega)
 have q1 : (kd == 1) = false := beq_eq_false_iff_ne.mpr (by omega)
 have q2 : (kd == 2) = false := beq_eq_false_iff_ne.mpr (by omega)
 have q3 : (kd == 3) = false := beq_eq_false_iff_ne.mpr (by omega)
 have q4 : (kd == 4) = false := beq_eq_false_iff_ne.mpr (by omega)
 have q5 : (kd == 5) = true := beq_iff_eq.mpr hk
 clear hk
 go_enter Try.func17, Try.ntmps17
 go_wp2_with (first
  | ((with_reducible refine gate_dst (N := 4) rfl ?_); refine box_event ?hg (N := 4) ?hd (cs := #[.slice A0 l0.length c0, .slice A1 l1.length c1, .int .i64 a2, .int .i64 a3, .int .i64 a4]) (t := 41) ?hr ?_; (case hd => rfl); (case hg => rfl); (case hr => first | (go_simp; done) | (go_simp; rfl)); intro b4 hgb4 w1 hbox hb; have Tw1 := Aside0.mk (Tr.box Tw.out hb hgb4 hbox); have Mw1 := Aside0.mk (Mw.out.below hb); have Ow1 := Aside0.mk (Ow.out.below hb); have Gb4 : Aside0 (w.heap.size ≤ b4) := ⟨by rw [hgb4]; exact Ow.out.1⟩; have Lb4 : Aside0 (w0.heap.size ≤ b4) := ⟨by rw [hgb4]; exact Tw.out.1.size⟩; clear Tw Mw Ow hb hbox hgb4)
  | ((with_reducible refine gate_dst (N := 5) rfl ?_); refine box_event ?hg (N := 5) ?hd (cs := #[.int .i64 kd, .int .i64 x, .int .i64 y, .string s, .int .i64 i1, .int .i64 i2]) (t := 45) ?hr ?_; (case hd => rfl); (case hg => rfl); (case hr => first | (go_simp; done) | (go_simp; rfl)); intro b5 hgb5 w2 hbox hb; have Tw2 := Aside0.mk (Tr.box Tw1.out hb hgb5 hbox); have Mw2 := Aside0.mk (Mw1.out.below hb); have Ow2 := Aside0.mk (Ow1.out.below hb); have Gb5 : Aside0 (w.heap.size ≤ b5) := ⟨by rw [hgb5]; exact Ow1.out.1⟩; have Lb5 : Aside0 (w0.heap.size ≤ b5) := ⟨by rw [hgb5]; exact Tw1.out.1.size⟩; clear Tw1 Mw1 Ow1 hb hbox hgb5)
  | ((with_reducible refine gate_dst (N := 6) rfl ?_); refine box_event ?hg (N := 6) ?hd (cs := #[.slice none 0 0, .slice none 0 0, .int .i64 0, .int .i64 0, .int .i64 0]) (t := 41) ?hr ?_; (case hd => rfl); (case hg => rfl); (case hr => first | (go_simp; done) | (go_simp; rfl)); intro b6 hgb6 w3 hbox hb; have Tw3 := Aside0.mk (Tr.box Tw2.out hb hgb6 hbox); have Mw3 := Aside0.mk (Mw2.out.below hb); have Ow3 := Aside0.mk (Ow2.out.below hb); have Gb6 : Aside0 (w.heap.size ≤ b6) := ⟨by rw [hgb6]; exact Ow2.out.1⟩; have Lb6 : Aside0 (w0.heap.size ≤ b6) := ⟨by rw [hgb6]; exact Tw2.out.1.size⟩; have N46 : Aside0 (b4 ≠ b6) := ⟨by rw [hgb6]; exact Nat.ne_of_lt (blk_lt (Tw2.out.mem (k := b4) (o := .cells #[.slice A0 l0.length c0, .slice A1 l1.length c1, .int .i64 a2, .int .i64 a3, .int .i64 a4] 41 (0, 0)) (by simp)))⟩; clear Tw2 Mw2 Ow2 hb hbox hgb6; have d5B : w3.heap[b5]? = some (.cells #[.int .i64 kd, .int .i64 x, .int .i64 y, .string s, .int .i64 i1, .int .i64 i2] 45 (0, 0)) := Tw3.out.mem (by simp); have d50 := (blk_cell d5B 0).trans rfl; have d51 := (blk_cell d5B 1).trans rfl; have d52 := (blk_cell d5B 2).trans rfl; have d53 := (blk_cell d5B 3).trans rfl; have d54 := (blk_cell d5B 4).trans rfl; have d55 := (blk_cell d5B 5).trans rfl; have d4B : w3.heap[b4]? = some (.cells #[.slice A0 l0.length c0, .slice A1 l1.length c1, .int .i64 a2, .int .i64 a3, .int .i64 a4] 41 (0, 0)) := Tw3.out.mem (by simp); have d40 := (blk_cell d4B 0).trans rfl; have d41 := (blk_cell d4B 1).trans rfl; have d42 := (blk_cell d4B 2).trans rfl; have d43 := (blk_cell d4B 3).trans rfl; have d44 := (blk_cell d4B 4).trans rfl))
 refine (T_Heal Tw3.out).mono ?_
 rintro e w4 ⟨rfl, hT, hkt⟩
 have T4 := Aside0.mk hT
 have M4 := Aside0.mk (Mw3.out.keepT hkt)
 have O4 := Aside0.mk (Ow3.out.ofT hkt)
 have x4B : w4.heap[b4]? = some (.cells #[.slice A0 l0.length c0, .slice A1 l1.length c1, .int .i64 a2, .int .i64 a3, .int .i64 a4] 41 (0, 0)) := hT.mem (by simp)
 have x6B : w4.heap[b6]? = some (.cells #[.slice none 0 0, .slice none 0 0, .int .i64 0, .int .i64 0, .int .i64 0] 41 (0, 0)) := hT.mem (by simp)
 have x40 := (blk_cell x4B 0).trans rfl
 have x60 := (blk_cell x6B 0).trans rfl
 have f60 := blk_frozen x6B 0
 have x41 := (blk_cell x4B 1).trans rfl
 have x61 := (blk_cell x6B 1).trans rfl
 have f61 := blk_frozen x6B 1
 have x42 := (blk_cell x4B 2).trans rfl
 have x62 := (blk_cell x6B 2).trans rfl
 have f62 := blk_frozen x6B 2
 have x43 := (blk_cell x4B 3).trans rfl
 have x63 := (blk_cell x6B 3).trans rfl
 have f63 := blk_frozen x6B 3
 have x44 := (blk_cell x4B 4).trans rfl
 have x64 := (blk_cell x6B 4).trans rfl
 have f64 := blk_frozen x6B 4
 have f41 := blk_frozen x4B 1
 have n1 := N46.out
 have n2 := Ne.symm N46.out
 clear hT hkt Tw3 Mw3 d4B d40 d41 d42 d43 d44 d5B d50 d51 d52 d53 d54 d55
 go_wp2
 have x6C : (w4.setCell ⟨b4, 1, none⟩ (.slice none 0 0)).heap[b6]? = some (.cells #[.slice none 0 0, .slice none 0 0, .int .i64 0, .int .i64 0, .int .i64 0] 41 (0, 0)) := (Below.heap_setCell _ _ _ _ n2).trans x6B
 refine bodyPost_ret (results_ct rfl _ _ b6 41 #[.slice A0 l0.length c0, .slice none 0 0, .int .i64 a2, .int .i64 a3, .int .i64 a4] (0, 0) _ rfl (set5_at (w4.setCell ⟨b4, 1, none⟩ (.slice none 0 0)) b6 _ _ _ _ _ _ _ _ _ _ x6C) Try.underlying41 rfl (by kernel_rfl)) rfl ?_
 have M5 : MR (w4.setCell ⟨b4, 1, none⟩ (.slice none 0 0)) w0.heap.size (.slice A0 l0.length c0) (.slice A1 l1.length c1) l0 l1 := M4.out.far x4B (by decide) (by decide) (fun k hk => Below.heap_setCell _ _ _ _ hk)
 have M6 := M5.far x6C (by decide) (by decide) (fun k hk => set5_far _ b6 (.slice A0 l0.length c0) (.slice none 0 0) (.int .i64 a2) (.int .i64 a3) (.int .i64 a4) k hk)
 have T5 := T4.out.setB (k := b4) (o := .cells #[.slice A0 l0.length c0, .slice A1 l1.length c1, .int .i64 a2, .int .i64 a3, .int .i64 a4] 41 (0, 0)) (by simp) Lb4.out 1 (.slice none 0 0)
 have m6 : (b6, Obj.cells #[.slice none 0 0, .slice none 0 0, .int .i64 0, .int .i64 0, .int .i64 0] 41 (0, 0)) ∈ ([(b6, .cells #[.slice none 0 0, .slice none 0 0, .int .i64 0, .int .i64 0, .int .i64 0] 41 (0, 0)), (b5, .cells #[.int .i64 kd, .int .i64 x, .int .i64 y, .string s, .int .i64 i1, .int .i64 i2] 45 (0, 0)), (b4, .cells #[.slice A0 l0.length c0, .slice A1 l1.length c1, .int .i64 a2, .int .i64 a3, .int .i64 a4] 41 (0, 0))] : List (Nat × Obj)).filter fun q => q.1 != b4 := List.mem_filter.2 ⟨by simp, by simpa using n2⟩
 exact ⟨_, _, rfl, ⟨M6.1, Kd.R_nil _ _ _ _ _⟩, Tr.set5 T5 m6 Lb6.out _ _ _ _ _, (O4.out.set Gb4.out _ _).set5 Gb6.out _ _ _ _ _⟩
theorem stowagelaw08_one.take {w0 w : World} {g : Nat} {n : NetS} {u0 u1 : Value} {l0 : List S60} {l1 : List S71} {a2 a3 a4 kd x y i1 i2 : Int} {s : ByteArray} (hT : Tr w0 w g n []) (hM : MR w w0.heap.size u0 u1 l0 l1) (hk : kd = 1) {r1 : List S60} {r2 : List S71} {r3 r4 r5 : Int} {p : S60} {t : Bool} (h : stowageref08_Wires_Take.f l0 l1 a2 a3 a4 i1 = some (r1, r2, r3, r4, r5, p.f0, p.f1, p.f2, t)) (hn : (n.take i1).2 = (p, t)) :
  Calls Try.prog 17 #[.pointer (some ⟨g, 0, none⟩), .agg #[u0, u1, .int .i64 a2, .int .i64 a3, .int .i64 a4], .agg #[.int .i64 kd, .int .i64 x, .int .i64 y, .string s, .int .i64 i1, .int .i64 i2]] w fun e w' => ∃ v0 v1, e = .returned (.tuple #[.agg #[v0, v1, .int .i64 r3, .int .i64 r4, .int .i64 r5], .bool true]) ∧ MR w' w0.heap.size v0 v1 r1 r2 ∧ Tr w0 w' g (n.take i1).1 [] ∧ KeepO w w' := by
 obtain ⟨A0, c0, A1, c1, rfl, rfl⟩ := hM.slices
 have Tw := Aside0.mk hT
 have Mw := Aside0.mk hM
 have Ow := Aside0.mk (KeepO.refl w)
 have HR := Aside0.mk h
 clear hT hM h
 have q0 : (kd == 0) = false := beq_eq_false_iff_ne.mpr (by omega)
 have q1 : (kd == 1) = true := beq_iff_eq.mpr hk
 have HN := Aside0.mk hn
 clear hk hn
 go_enter Try.func17, Try.ntmps17
 go_wp2_with (first
  | ((with_reducible refine gate_dst (N := 4) rfl ?_); refine box_event ?hg (N := 4) ?hd (cs := #[.slice A0 l0.length c0, .slice A1 l1.length c1, .int .i64 a2, .int .i64 a3, .int .i64 a4]) (t := 41) ?hr ?_; (case hd => rfl); (case hg => rfl); (case hr => first | (go_simp; done) | (go_simp; rfl)); intro b4 hgb4 w1 hbox hb; have Tw1 := Aside0.mk (Tr.box Tw.out hb hgb4 hbox); have Mw1 := Aside0.mk (Mw.out.below hb); have Ow1 := Aside0.mk (Ow.out.below hb); have Gb4 : Aside0 (w.heap.size ≤ b4) := ⟨by rw [hgb4]; exact Ow.out.1⟩; have Lb4 : Aside0 (w0.heap.size ≤ b4) := ⟨by rw [hgb4]; exact Tw.out.1.size⟩; clear Tw Mw Ow hb hbox hgb4)
  | ((with_reducible refine gate_dst (N := 5) rfl ?_); refine box_event ?hg (N := 5) ?hd (cs := #[.int .i64 kd, .int .i64 x, .int .i64 y, .string s, .int .i64 i1, .int .i64 i2]) (t := 45) ?hr ?_; (case hd => rfl); (case hg => rfl); (case hr => first | (go_simp; done) | (go_simp; rfl)); intro b5 hgb5 w2 hbox hb; have Tw2 := Aside0.mk (Tr.box Tw1.out hb hgb5 hbox); have Mw2 := Aside0.mk (Mw1.out.below hb); have Ow2 := Aside0.mk (Ow1.out.below hb); have Gb5 : Aside0 (w.heap.size ≤ b5) := ⟨by rw [hgb5]; exact Ow1.out.1⟩; have Lb5 : Aside0 (w0.heap.size ≤ b5) := ⟨by rw [hgb5]; exact Tw1.out.1.size⟩; clear Tw1 Mw1 Ow1 hb hbox hgb5)
  | ((with_reducible refine gate_dst (N := 6) rfl ?_); refine box_event ?hg (N := 6) ?hd (cs := #[.slice none 0 0, .slice none 0 0, .int .i64 0, .int .i64 0, .int .i64 0]) (t := 41) ?hr ?_; (case hd => rfl); (case hg => rfl); (case hr => first | (go_simp; done) | (go_simp; rfl)); intro b6 hgb6 w3 hbox hb; have Tw3 := Aside0.mk (Tr.box Tw2.out hb hgb6 hbox); have Mw3 := Aside0.mk (Mw2.out.below hb); have Ow3 := Aside0.mk (Ow2.out.below hb); have Gb6 : Aside0 (w.heap.size ≤ b6) := ⟨by rw [hgb6]; exact Ow2.out.1⟩; have Lb6 : Aside0 (w0.heap.size ≤ b6) := ⟨by rw [hgb6]; exact Tw2.out.1.size⟩; have N46 : Aside0 (b4 ≠ b6) := ⟨by rw [hgb6]; exact Nat.ne_of_lt (blk_lt (Tw2.out.mem (k := b4) (o := .cells #[.slice A0 l0.length c0, .slice A1 l1.length c1, .int .i64 a2, .int .i64 a3, .int .i64 a4] 41 (0, 0)) (by simp)))⟩; clear Tw2 Mw2 Ow2 hb hbox hgb6; have d5B : w3.heap[b5]? = some (.cells #[.int .i64 kd, .int .i64 x, .int .i64 y, .string s, .int .i64 i1, .int .i64 i2] 45 (0, 0)) := Tw3.out.mem (by simp); have d50 := (blk_cell d5B 0).trans rfl; have d51 := (blk_cell d5B 1).trans rfl; have d52 := (blk_cell d5B 2).trans rfl; have d53 := (blk_cell d5B 3).trans rfl; have d54 := (blk_cell d5B 4).trans rfl; have d55 := (blk_cell d5B 5).trans rfl; have d4B : w3.heap[b4]? = some (.cells #[.slice A0 l0.length c0, .slice A1 l1.length c1, .int .i64 a2, .int .i64 a3, .int .i64 a4] 41 (0, 0)) := Tw3.out.mem (by simp); have d40 := (blk_cell d4B 0).trans rfl; have d41 := (blk_cell d4B 1).trans rfl; have d42 := (blk_cell d4B 2).trans rfl; have d43 := (blk_cell d4B 3).trans rfl; have d44 := (blk_cell d4B 4).trans rfl))
 refine (R_Take Tw3.out.1 Mw3.out HR.out).mono ?_
 rintro e w4 ⟨v0, v1, rfl, hM, hk, hB⟩
 obtain ⟨A2, c2, A3, c3, rfl, rfl⟩ := hM.slices
 have T4 := Aside0.mk (Tr.keptM Tw3.out hk hB (notMs (fun q hq => by simp only [List.mem_cons, List.not_mem_nil, or_false] at hq; rcases hq with rfl | rfl | rfl <;> exact ⟨_, _, rfl, by decide, by decide⟩)))
 have M4 := Aside0.mk hM
 have O4 := Aside0.mk (Ow3.out.ofM hk)
 clear Tw3 Mw3 Ow3 hM hk hB d4B d40 d41 d42 d43 d44 d5B d50 d51 d52 d53 d54 d55 HR
 go_upto_region 7 with (fail)
 have e11 : (w4.alloc (.cells #[.slice A2 r1.length c2, .slice A3 r2.length c3, .int .i64 r3, .int .i64 r4, .int .i64 r5] 41 (0, 0))).heap.size = w4.heap.size + 1 := by simp
 have T5 := (T4.out.push (.cells #[.slice A2 r1.length c2, .slice A3 r2.length c3, .int .i64 r3, .int .i64 r4, .int .i64 r5] 41 (0, 0))).push (.cells #[.int .i64 p.f0, .int .i64 p.f1, .string p.f2] 60 (0, 0))
 rw [e11] at T5
 have T5 := Aside0.mk T5
 have M5 := Aside0.mk (M4.out.below (below_alloc (below_alloc (Below.refl w4.heap.size w4) (.cells #[.slice A2 r1.length c2, .slice A3 r2.length c3, .int .i64 r3, .int .i64 r4, .int .i64 r5] 41 (0, 0))) (.cells #[.int .i64 p.f0, .int .i64 p.f1, .string p.f2] 60 (0, 0))))
 have O5 := Aside0.mk (O4.out.below (below_alloc (below_alloc (Below.refl w4.heap.size w4) (.cells #[.slice A2 r1.length c2, .slice A3 r2.length c3, .int .i64 r3, .int .i64 r4, .int .i64 r5] 41 (0, 0))) (.cells #[.int .i64 p.f0, .int .i64 p.f1, .string p.f2] 60 (0, 0))))
 have N10 : Aside0 (w4.heap.size ≠ b6) := ⟨by have := blk_lt (T4.out.mem (k := b6) (o := .cells #[.slice none 0 0, .slice none 0 0, .int .i64 0, .int .i64 0, .int .i64 0] 41 (0, 0)) (by simp)); omega⟩
 have N11 : Aside0 (w4.heap.size + 1 ≠ b6) := ⟨by have := blk_lt (T4.out.mem (k := b6) (o := .cells #[.slice none 0 0, .slice none 0 0, .int .i64 0, .int .i64 0, .int .i64 0] 41 (0, 0)) (by simp)); omega⟩
 clear e11 T4 M4 O4
 generalize (w4.alloc (.cells #[.slice A2 r1.length c2, .slice A3 r2.length c3, .int .i64 r3, .int .i64 r4, .int .i64 r5] 41 (0, 0))).alloc (.cells #[.int .i64 p.f0, .int .i64 p.f1, .string p.f2] 60 (0, 0)) = w5 at T5 M5 O5 ⊢
 generalize w4.heap.size + 1 = b11 at T5 N11 ⊢
 generalize w4.heap.size = b10 at T5 N10 ⊢
 have d5B : w5.heap[b5]? = some (.cells #[.int .i64 kd, .int .i64 x, .int .i64 y, .string s, .int .i64 i1, .int .i64 i2] 45 (0, 0)) := T5.out.mem (by simp)
 have d54 := (blk_cell d5B 4).trans rfl
 go_wp2_with (fail)
 refine (T_Take i1 T5.out).mono ?_
 rw [HN.out]
 rintro e w6 ⟨rfl, hT, hkt⟩
 have T6 := Aside0.mk (hT.push (.cells #[.int .i64 p.f0, .int .i64 p.f1, .string p.f2] 27 (0, 0)))
 have M6 := Aside0.mk ((M5.out.keepT hkt).below (below_alloc (Below.refl w6.heap.size w6) (.cells #[.int .i64 p.f0, .int .i64 p.f1, .string p.f2] 27 (0, 0))))
 have O6 := Aside0.mk ((O5.out.ofT hkt).below (below_alloc (Below.refl w6.heap.size w6) (.cells #[.int .i64 p.f0, .int .i64 p.f1, .string p.f2] 27 (0, 0))))
 have N13 : Aside0 (w6.heap.size ≠ b6) := ⟨by have := blk_lt (hT.mem (k := b6) (o := .cells #[.slice none 0 0, .slice none 0 0, .int .i64 0, .int .i64 0, .int .i64 0] 41 (0, 0)) (by simp)); omega⟩
 clear hT hkt T5 M5 O5 d5B d54 HN
 go_upto_region 8 with (fail)
 generalize w6.alloc (.cells #[.int .i64 p.f0, .int .i64 p.f1, .string p.f2] 27 (0, 0)) = w7 at T6 M6 O6 ⊢
 generalize w6.heap.size = b13 at T6 N13 ⊢
 have d8B : w7.heap[b10]? = some (.cells #[.slice A2 r1.length c2, .slice A3 r2.length c3, .int .i64 r3, .int .i64 r4, .int .i64 r5] 41 (0, 0)) := T6.out.mem (by simp)
 have d80 := (blk_cell d8B 0).trans rfl
 have d81 := (blk_cell d8B 1).trans rfl
 have d82 := (blk_cell d8B 2).trans rfl
 have d83 := (blk_cell d8B 3).trans rfl
 have d84 := (blk_cell d8B 4).trans rfl
 have d1B : w7.heap[b11]? = some (.cells #[.int .i64 p.f0, .int .i64 p.f1, .string p.f2] 60 (0, 0)) := T6.out.mem (by simp)
 have d10 := (blk_cell d1B 0).trans rfl
 have d11 := (blk_cell d1B 1).trans rfl
 have d12 := (blk_cell d1B 2).trans rfl
 have d3B : w7.heap[b13]? = some (.cells #[.int .i64 p.f0, .int .i64 p.f1, .string p.f2] 27 (0, 0)) := T6.out.mem (by simp)
 have d30 := (blk_cell d3B 0).trans rfl
 have d31 := (blk_cell d3B 1).trans rfl
 have d32 := (blk_cell d3B 2).trans rfl
 refine start_ (n := 11) (S := (fun w' => w'.cell? ⟨b10, 0, none⟩ = some (.slice A2 r1.length c2) ∧ w'.cell? ⟨b10, 1, none⟩ = some (.slice A3 r2.length c3) ∧ w'.cell? ⟨b10, 2, none⟩ = some (.int .i64 r3) ∧ w'.cell? ⟨b10, 3, none⟩ = some (.int .i64 r4) ∧ w'.cell? ⟨b10, 4, none⟩ = some (.int .i64 r5) ∧ w'.cell? ⟨b11, 0, none⟩ = some (.int .i64 p.f0) ∧ w'.cell? ⟨b11, 1, none⟩ = some (.int .i64 p.f1) ∧ w'.cell? ⟨b11, 2, none⟩ = some (.string p.f2) ∧ w'.cell? ⟨b13, 0, none⟩ = some (.int .i64 p.f0) ∧ w'.cell? ⟨b13, 1, none⟩ = some (.int .i64 p.f1) ∧ w'.cell? ⟨b13, 2, none⟩ = some (.string p.f2))) (ds := []) #[false, false, false, false, false, false, false, false, false, false, false] (by kernel_rfl) rfl rfl ⟨d80, d81, d82, d83, d84, d10, d11, d12, d30, d31, d32⟩ (fun hHeld => ?_)
 have T8 := Aside0.mk T6.out.drew
 have M8 := Aside0.mk (M6.out.below (below_drew1 (Below.refl w7.heap.size w7)))
 have O8 := Aside0.mk (O6.out.below (below_drew1 (Below.refl w7.heap.size w7)))
 clear T6 M6 O6 d80 d81 d82 d83 d84 d10 d11 d12 d30 d31 d32 d8B d1B d3B
 generalize w7.drew = w8 at T8 M8 O8 hHeld ⊢
 refine take_ (i := 0) (N := some 62) (v := ?_) (a' := ?_) #[true, false, false, false, false, false, false, false, false, false, false] rfl rfl (by kernel_rfl) (fun _ _ _ h => h) (Or.inl ⟨by rfl, ?_⟩) (by first | exact hHeld | assumption) ?_ ?_
 rotate_left
 ·rintro w' ⟨s0, s1, s2, s3, s4, s5, s6, s7, s8, s9, s10⟩
  go_simp
  with_reducible rfl
 rotate_left
 ·simp only [Act.put, List.setIfInBounds_toArray, List.set_cons_zero, List.set_cons_succ]
  rfl
 refine pure_ (i := 1) (N := some 63) (v := ?_) (a' := ?_) #[true, true, false, false, false, false, false, false, false, false, false] rfl rfl (by kernel_rfl) (fun _ _ _ h => h) (Or.inl ⟨by rfl, ?_⟩) ?_ ?_
 rotate_left
 ·intro w'
  go_simp
  with_reducible rfl
 rotate_left
 ·simp only [Act.put, List.setIfInBounds_toArray, List.set_cons_zero, List.set_cons_succ]
  rfl
 refine pure_ (i := 2) (N := some 64) (v := ?_) (a' := ?_) #[true, true, true, false, false, false, false, false, false, false, false] rfl rfl (by kernel_rfl) (fun _ _ _ h => h) (Or.inl ⟨by rfl, ?_⟩) ?_ ?_
 rotate_left
 ·intro w'
  go_simp
  with_reducible rfl
 rotate_left
 ·simp only [Act.put, List.setIfInBounds_toArray, List.set_cons_zero, List.set_cons_succ]
  rfl
 refine pure_ (i := 3) (N := some 65) (v := ?_) (a' := ?_) #[true, true, true, true, false, false, false, false, false, false, false] rfl rfl (by kernel_rfl) (fun _ _ _ h => h) (Or.inl ⟨by rfl, ?_⟩) ?_ ?_
 rotate_left
 ·intro w'
  go_simp
  with_reducible rfl
 rotate_left
 ·simp only [Act.put, List.setIfInBounds_toArray, List.set_cons_zero, List.set_cons_succ]
  rfl
 refine pure_ (i := 4) (N := some 66) (v := ?_) (a' := ?_) #[true, true, true, true, true, false, false, false, false, false, false] rfl rfl (by kernel_rfl) (fun _ _ _ h => h) (Or.inl ⟨by rfl, ?_⟩) ?_ ?_
 rotate_left
 ·intro w'
  go_simp
  with_reducible rfl
 rotate_left
 ·simp only [Act.put, List.setIfInBounds_toArray, List.set_cons_zero, List.set_cons_succ]
  rfl
 refine take_ (i := 5) (N := some 67) (v := ?_) (a' := ?_) #[true, true, true, true, true, true, false, false, false, false, false] rfl rfl (by kernel_rfl) (fun _ _ _ h => h) (Or.inl ⟨by rfl, ?_⟩) (by first | exact hHeld | assumption) ?_ ?_
 rotate_left
 ·rintro w' ⟨s0, s1, s2, s3, s4, s5, s6, s7, s8, s9, s10⟩
  go_simp
  with_reducible rfl
 rotate_left
 ·simp only [Act.put, List.setIfInBounds_toArray, List.set_cons_zero, List.set_cons_succ]
  rfl
 refine take_ (i := 6) (N := some 68) (v := ?_) (a' := ?_) #[true, true, true, true, true, true, true, false, false, false, false] rfl rfl (by kernel_rfl) (fun _ _ _ h => h) (Or.inl ⟨by rfl, ?_⟩) (by first | exact hHeld | assumption) ?_ ?_
 rotate_left
 ·rintro w' ⟨s0, s1, s2, s3, s4, s5, s6, s7, s8, s9, s10⟩
  go_simp
  with_reducible rfl
 rotate_left
 ·simp only [Act.put, List.setIfInBounds_toArray, List.set_cons_zero, List.set_cons_succ]
  rfl
 refine pure_ (i := 7) (N := some 69) (v := ?_) (a' := ?_) #[true, true, true, true, true, true, true, true, false, false, false] rfl rfl (by kernel_rfl) (fun _ _ _ h => h) (Or.inl ⟨by rfl, ?_⟩) ?_ ?_
 rotate_left
 ·intro w'
  go_simp
  with_reducible rfl
 rotate_left
 ·simp only [Act.put, List.setIfInBounds_toArray, List.set_cons_zero, List.set_cons_succ]
  rfl
 refine pure_ (i := 8) (N := some 70) (v := ?_) (a' := ?_) #[true, true, true, true, true, true, true, true, true, false, false] rfl rfl (by kernel_rfl) (fun _ _ _ h => h) (Or.inl ⟨by rfl, ?_⟩) ?_ ?_
 rotate_left
 ·intro w'
  go_simp
  with_reducible rfl
 rotate_left
 ·simp only [Act.put, List.setIfInBounds_toArray, List.set_cons_zero, List.set_cons_succ]
  rfl
 refine one_ (i := 9) (N := none) #[true, true, true, true, true, true, true, true, true, true, false] rfl rfl (by kernel_rfl) (by decide) (fun K hK => ?_)
 have z6B : w8.heap[b6]? = some (.cells #[.slice none 0 0, .slice none 0 0, .int .i64 0, .int .i64 0, .int .i64 0] 41 (0, 0)) := T8.out.mem (by simp)
 have yb10B : w8.heap[b10]? = some (.cells #[.slice A2 r1.length c2, .slice A3 r2.length c3, .int .i64 r3, .int .i64 r4, .int .i64 r5] 41 (0, 0)) := T8.out.mem (by simp)
 have yb11B : w8.heap[b11]? = some (.cells #[.int .i64 p.f0, .int .i64 p.f1, .string p.f2] 60 (0, 0)) := T8.out.mem (by simp)
 have yb13B : w8.heap[b13]? = some (.cells #[.int .i64 p.f0, .int .i64 p.f1, .string p.f2] 27 (0, 0)) := T8.out.mem (by simp)
 have z60 := (blk_cell z6B 0).trans rfl
 have f60 := blk_frozen z6B 0
 have z61 := (blk_cell z6B 1).trans rfl
 have f61 := blk_frozen z6B 1
 have z62 := (blk_cell z6B 2).trans rfl
 have f62 := blk_frozen z6B 2
 have z63 := (blk_cell z6B 3).trans rfl
 have f63 := blk_frozen z6B 3
 have z64 := (blk_cell z6B 4).trans rfl
 have f64 := blk_frozen z6B 4
 refine skip_ (w1 := ?_) (by rfl) rfl ?_ ?_
 rotate_left
 ·go_simp
  rfl
 refine hK.out _ _ ⟨(blk_cell ((set5_far w8 b6 _ _ _ _ _ b10 N10.out).trans yb10B) 0).trans rfl, (blk_cell ((set5_far w8 b6 _ _ _ _ _ b10 N10.out).trans yb10B) 1).trans rfl, (blk_cell ((set5_far w8 b6 _ _ _ _ _ b10 N10.out).trans yb10B) 2).trans rfl, (blk_cell ((set5_far w8 b6 _ _ _ _ _ b10 N10.out).trans yb10B) 3).trans rfl, (blk_cell ((set5_far w8 b6 _ _ _ _ _ b10 N10.out).trans yb10B) 4).trans rfl, (blk_cell ((set5_far w8 b6 _ _ _ _ _ b11 N11.out).trans yb11B) 0).trans rfl, (blk_cell ((set5_far w8 b6 _ _ _ _ _ b11 N11.out).trans yb11B) 1).trans rfl, (blk_cell ((set5_far w8 b6 _ _ _ _ _ b11 N11.out).trans yb11B) 2).trans rfl, (blk_cell ((set5_far w8 b6 _ _ _ _ _ b13 N13.out).trans yb13B) 0).trans rfl, (blk_cell ((set5_far w8 b6 _ _ _ _ _ b13 N13.out).trans yb13B) 1).trans rfl, (blk_cell ((set5_far w8 b6 _ _ _ _ _ b13 N13.out).trans yb13B) 2).trans rfl⟩ (fun hHeld => ?_)
 clear hK K
 refine pure_ (i := 10) (N := some 7) (v := ?_) (a' := ?_) #[true, true, true, true, true, true, true, true, true, true, true] rfl rfl (by kernel_rfl) (fun _ _ _ h => h) (Or.inl ⟨by rfl, ?_⟩) ?_ ?_
 rotate_left
 ·intro w'
  go_simp
  with_reducible rfl
 rotate_left
 ·simp only [Act.put, List.setIfInBounds_toArray, List.set_cons_zero, List.set_cons_succ]
  rfl
 refine done_ (by kernel_rfl) ?_
 go_wp2
 refine bodyPost_ret (results_ct rfl _ _ b6 41 #[.slice A2 r1.length c2, .slice A3 r2.length c3, .int .i64 r3, .int .i64 r4, .int .i64 r5] (0, 0) _ rfl (set5_at w8 b6 _ _ _ _ _ _ _ _ _ _ z6B) Try.underlying41 rfl (by kernel_rfl)) rfl ?_
 exact ⟨_, _, rfl, M8.out.far z6B (by decide) (by decide) (fun k hk => set5_far w8 b6 _ _ _ _ _ k hk), Tr.set5 T8.out (k := b6) (o := .cells #[.slice none 0 0, .slice none 0 0, .int .i64 0, .int .i64 0, .int .i64 0] 41 (0, 0)) (by simp) Lb6.out _ _ _ _ _, O8.out.set5 Gb6.out _ _ _ _ _⟩
theorem stowagelaw08_one.at_eq {w0 w : World} {g : Nat} {n : NetS} {u0 u1 : Value} {l0 : List S60} {l1 : List S71} {a2 a3 a4 kd x y i1 i2 : Int} {s : ByteArray} {p : S60} {t : Bool} (hT : Tr w0 w g n []) (hM : MR w w0.heap.size u0 u1 l0 l1) (hk : kd < 0 ∨ 6 < kd) (h : stowageref08_Wires_At.f l0 l1 a2 a3 a4 i1 = some (p.f0, p.f1, p.f2, t)) (hn : n.at_ i1 = (p, t)) :
  Calls Try.prog 17 #[.pointer (some ⟨g, 0, none⟩), .agg #[u0, u1, .int .i64 a2, .int .i64 a3, .int .i64 a4], .agg #[.int .i64 kd, .int .i64 x, .int .i64 y, .string s, .int .i64 i1, .int .i64 i2]] w fun e w' => ∃ v0 v1, e = .returned (.tuple #[.agg #[v0, v1, .int .i64 a2, .int .i64 a3, .int .i64 a4], .bool true]) ∧ MR w' w0.heap.size v0 v1 l0 l1 ∧ Tr w0 w' g n [] ∧ KeepO w w' := by
 obtain ⟨A0, c0, A1, c1, rfl, rfl⟩ := hM.slices
 have Tw := Aside0.mk hT
 have Mw := Aside0.mk hM
 have Ow := Aside0.mk (KeepO.refl w)
 have HR := Aside0.mk h
 have HN := Aside0.mk hn
 clear hT hM h hn
 have q00 : (kd == 0) = false := beq_eq_false_iff_ne.mpr (by omega)
 have q01 : (kd == 1) = false := beq_eq_false_iff_ne.mpr (by omega)
 have q02 : (kd == 2) = false := beq_eq_false_iff_ne.mpr (by omega)
 have q03 : (kd == 3) = false := beq_eq_false_iff_ne.mpr (by omega)
 have q04 : (kd == 4) = false := beq_eq_false_iff_ne.mpr (by omega)
 have q05 : (kd == 5) = false := beq_eq_false_iff_ne.mpr (by omega)
 have q06 : (kd == 6) = false := beq_eq_false_iff_ne.mpr (by omega)
 clear hk
 go_enter Try.func17, Try.ntmps17
 go_wp2_with (first
  | ((with_reducible refine gate_dst (N := 4) rfl ?_); refine box_event ?hg (N := 4) ?hd (cs := #[.slice A0 l0.length c0, .slice A1 l1.length c1, .int .i64 a2, .int .i64 a3, .int .i64 a4]) (t := 41) ?hr ?_; (case hd => rfl); (case hg => rfl); (case hr => first | (go_simp; done) | (go_simp; rfl)); intro b4 hgb4 w1 hbox hb; have Tw1 := Aside0.mk (Tr.box Tw.out hb hgb4 hbox); have Mw1 := Aside0.mk (Mw.out.below hb); have Ow1 := Aside0.mk (Ow.out.below hb); have Gb4 : Aside0 (w.heap.size ≤ b4) := ⟨by rw [hgb4]; exact Ow.out.1⟩; have Lb4 : Aside0 (w0.heap.size ≤ b4) := ⟨by rw [hgb4]; exact Tw.out.1.size⟩; clear Tw Mw Ow hb hbox hgb4)
  | ((with_reducible refine gate_dst (N := 5) rfl ?_); refine box_event ?hg (N := 5) ?hd (cs := #[.int .i64 kd, .int .i64 x, .int .i64 y, .string s, .int .i64 i1, .int .i64 i2]) (t := 45) ?hr ?_; (case hd => rfl); (case hg => rfl); (case hr => first | (go_simp; done) | (go_simp; rfl)); intro b5 hgb5 w2 hbox hb; have Tw2 := Aside0.mk (Tr.box Tw1.out hb hgb5 hbox); have Mw2 := Aside0.mk (Mw1.out.below hb); have Ow2 := Aside0.mk (Ow1.out.below hb); have Gb5 : Aside0 (w.heap.size ≤ b5) := ⟨by rw [hgb5]; exact Ow1.out.1⟩; have Lb5 : Aside0 (w0.heap.size ≤ b5) := ⟨by rw [hgb5]; exact Tw1.out.1.size⟩; clear Tw1 Mw1 Ow1 hb hbox hgb5)
  | ((with_reducible refine gate_dst (N := 6) rfl ?_); refine box_event ?hg (N := 6) ?hd (cs := #[.slice none 0 0, .slice none 0 0, .int .i64 0, .int .i64 0, .int .i64 0]) (t := 41) ?hr ?_; (case hd => rfl); (case hg => rfl); (case hr => first | (go_simp; done) | (go_simp; rfl)); intro b6 hgb6 w3 hbox hb; have Tw3 := Aside0.mk (Tr.box Tw2.out hb hgb6 hbox); have Mw3 := Aside0.mk (Mw2.out.below hb); have Ow3 := Aside0.mk (Ow2.out.below hb); have Gb6 : Aside0 (w.heap.size ≤ b6) := ⟨by rw [hgb6]; exact Ow2.out.1⟩; have Lb6 : Aside0 (w0.heap.size ≤ b6) := ⟨by rw [hgb6]; exact Tw2.out.1.size⟩; have N46 : Aside0 (b4 ≠ b6) := ⟨by rw [hgb6]; exact Nat.ne_of_lt (blk_lt (Tw2.out.mem (k := b4) (o := .cells #[.slice A0 l0.length c0, .slice A1 l1.length c1, .int .i64 a2, .int .i64 a3, .int .i64 a4] 41 (0, 0)) (by simp)))⟩; clear Tw2 Mw2 Ow2 hb hbox hgb6; have d5B : w3.heap[b5]? = some (.cells #[.int .i64 kd, .int .i64 x, .int .i64 y, .string s, .int .i64 i1, .int .i64 i2] 45 (0, 0)) := Tw3.out.mem (by simp); have d50 := (blk_cell d5B 0).trans rfl; have d51 := (blk_cell d5B 1).trans rfl; have d52 := (blk_cell d5B 2).trans rfl; have d53 := (blk_cell d5B 3).trans rfl; have d54 := (blk_cell d5B 4).trans rfl; have d55 := (blk_cell d5B 5).trans rfl; have d4B : w3.heap[b4]? = some (.cells #[.slice A0 l0.length c0, .slice A1 l1.length c1, .int .i64 a2, .int .i64 a3, .int .i64 a4] 41 (0, 0)) := Tw3.out.mem (by simp); have d40 := (blk_cell d4B 0).trans rfl; have d41 := (blk_cell d4B 1).trans rfl; have d42 := (blk_cell d4B 2).trans rfl; have d43 := (blk_cell d4B 3).trans rfl; have d44 := (blk_cell d4B 4).trans rfl))
 refine (R_At Mw3.out HR.out).mono ?_
 rintro e w4 ⟨rfl, hb⟩
 have T5 := Aside0.mk ((Tw3.out.below hb).push (.cells #[.int .i64 p.f0, .int .i64 p.f1, .string p.f2] 60 (0, 0)))
 have M5 := Aside0.mk ((Mw3.out.below hb).below (below_alloc (Below.refl w4.heap.size w4) (.cells #[.int .i64 p.f0, .int .i64 p.f1, .string p.f2] 60 (0, 0))))
 have O5 := Aside0.mk ((Ow3.out.below hb).below (below_alloc (Below.refl w4.heap.size w4) (.cells #[.int .i64 p.f0, .int .i64 p.f1, .string p.f2] 60 (0, 0))))
 have N23 : Aside0 (w4.heap.size ≠ b6) := ⟨by have := blk_lt ((Tw3.out.below hb).mem (k := b6) (o := .cells #[.slice none 0 0, .slice none 0 0, .int .i64 0, .int .i64 0, .int .i64 0] 41 (0, 0)) (by simp)); omega⟩
 clear Tw3 Mw3 Ow3 hb d4B d40 d41 d42 d43 d44 d5B d50 d51 d52 d53 d54 d55 HR
 go_upto_region 26 with (fail)
 generalize w4.alloc (.cells #[.int .i64 p.f0, .int .i64 p.f1, .string p.f2] 60 (0, 0)) = w5 at T5 M5 O5 ⊢
 generalize w4.heap.size = b23 at T5 N23 ⊢
 have d5B : w5.heap[b5]? = some (.cells #[.int .i64 kd, .int .i64 x, .int .i64 y, .string s, .int .i64 i1, .int .i64 i2] 45 (0, 0)) := T5.out.mem (by simp)
 have d54 := (blk_cell d5B 4).trans rfl
 go_wp2_with (fail)
 refine (T_At i1 T5.out).mono ?_
 rw [HN.out]
 rintro e w6 ⟨rfl, hb⟩
 have T6 := Aside0.mk ((T5.out.below hb).push (.cells #[.int .i64 p.f0, .int .i64 p.f1, .string p.f2] 27 (0, 0)))
 have M6 := Aside0.mk ((M5.out.below hb).below (below_alloc (Below.refl w6.heap.size w6) (.cells #[.int .i64 p.f0, .int .i64 p.f1, .string p.f2] 27 (0, 0))))
 have O6 := Aside0.mk ((O5.out.below hb).below (below_alloc (Below.refl w6.heap.size w6) (.cells #[.int .i64 p.f0, .int .i64 p.f1, .string p.f2] 27 (0, 0))))
 have N25 : Aside0 (w6.heap.size ≠ b6) := ⟨by have := blk_lt ((T5.out.below hb).mem (k := b6) (o := .cells #[.slice none 0 0, .slice none 0 0, .int .i64 0, .int .i64 0, .int .i64 0] 41 (0, 0)) (by simp)); omega⟩
 clear hb T5 M5 O5 d5B d54 HN
 go_upto_region 27 with (fail)
 generalize w6.alloc (.cells #[.int .i64 p.f0, .int .i64 p.f1, .string p.f2] 27 (0, 0)) = w7 at T6 M6 O6 ⊢
 generalize w6.heap.size = b25 at T6 N25 ⊢
 have d8B : w7.heap[b4]? = some (.cells #[.slice A0 l0.length c0, .slice A1 l1.length c1, .int .i64 a2, .int .i64 a3, .int .i64 a4] 41 (0, 0)) := T6.out.mem (by simp)
 have d80 := (blk_cell d8B 0).trans rfl
 have d81 := (blk_cell d8B 1).trans rfl
 have d82 := (blk_cell d8B 2).trans rfl
 have d83 := (blk_cell d8B 3).trans rfl
 have d84 := (blk_cell d8B 4).trans rfl
 have d1B : w7.heap[b23]? = some (.cells #[.int .i64 p.f0, .int .i64 p.f1, .string p.f2] 60 (0, 0)) := T6.out.mem (by simp)
 have d10 := (blk_cell d1B 0).trans rfl
 have d11 := (blk_cell d1B 1).trans rfl
 have d12 := (blk_cell d1B 2).trans rfl
 have d3B : w7.heap[b25]? = some (.cells #[.int .i64 p.f0, .int .i64 p.f1, .string p.f2] 27 (0, 0)) := T6.out.mem (by simp)
 have d30 := (blk_cell d3B 0).trans rfl
 have d31 := (blk_cell d3B 1).trans rfl
 have d32 := (blk_cell d3B 2).trans rfl
 refine start_ (n := 11) (S := (fun w' => w'.cell? ⟨b4, 0, none⟩ = some (.slice A0 l0.length c0) ∧ w'.cell? ⟨b4, 1, none⟩ = some (.slice A1 l1.length c1) ∧ w'.cell? ⟨b4, 2, none⟩ = some (.int .i64 a2) ∧ w'.cell? ⟨b4, 3, none⟩ = some (.int .i64 a3) ∧ w'.cell? ⟨b4, 4, none⟩ = some (.int .i64 a4) ∧ w'.cell? ⟨b23, 0, none⟩ = some (.int .i64 p.f0) ∧ w'.cell? ⟨b23, 1, none⟩ = some (.int .i64 p.f1) ∧ w'.cell? ⟨b23, 2, none⟩ = some (.string p.f2) ∧ w'.cell? ⟨b25, 0, none⟩ = some (.int .i64 p.f0) ∧ w'.cell? ⟨b25, 1, none⟩ = some (.int .i64 p.f1) ∧ w'.cell? ⟨b25, 2, none⟩ = some (.string p.f2))) (ds := []) #[false, false, false, false, false, false, false, false, false, false, false] (by kernel_rfl) rfl rfl ⟨d80, d81, d82, d83, d84, d10, d11, d12, d30, d31, d32⟩ (fun hHeld => ?_)
 have T8 := Aside0.mk T6.out.drew
 have M8 := Aside0.mk (M6.out.below (below_drew1 (Below.refl w7.heap.size w7)))
 have O8 := Aside0.mk (O6.out.below (below_drew1 (Below.refl w7.heap.size w7)))
 clear T6 M6 O6 d80 d81 d82 d83 d84 d10 d11 d12 d30 d31 d32 d8B d1B d3B
 generalize w7.drew = w8 at T8 M8 O8 hHeld ⊢
 refine take_ (i := 0) (N := some 159) (v := ?_) (a' := ?_) #[true, false, false, false, false, false, false, false, false, false, false] rfl rfl (by kernel_rfl) (fun _ _ _ h => h) (Or.inl ⟨by rfl, ?_⟩) (by first | exact hHeld | assumption) ?_ ?_
 rotate_left
 ·rintro w' ⟨s0, s1, s2, s3, s4, s5, s6, s7, s8, s9, s10⟩
  go_simp
  with_reducible rfl
 rotate_left
 ·simp only [Act.put, List.setIfInBounds_toArray, List.set_cons_zero, List.set_cons_succ]
  rfl
 refine pure_ (i := 1) (N := some 160) (v := ?_) (a' := ?_) #[true, true, false, false, false, false, false, false, false, false, false] rfl rfl (by kernel_rfl) (fun _ _ _ h => h) (Or.inl ⟨by rfl, ?_⟩) ?_ ?_
 rotate_left
 ·intro w'
  go_simp
  with_reducible rfl
 rotate_left
 ·simp only [Act.put, List.setIfInBounds_toArray, List.set_cons_zero, List.set_cons_succ]
  rfl
 refine pure_ (i := 2) (N := some 161) (v := ?_) (a' := ?_) #[true, true, true, false, false, false, false, false, false, false, false] rfl rfl (by kernel_rfl) (fun _ _ _ h => h) (Or.inl ⟨by rfl, ?_⟩) ?_ ?_
 rotate_left
 ·intro w'
  go_simp
  with_reducible rfl
 rotate_left
 ·simp only [Act.put, List.setIfInBounds_toArray, List.set_cons_zero, List.set_cons_succ]
  rfl
 refine pure_ (i := 3) (N := some 162) (v := ?_) (a' := ?_) #[true, true, true, true, false, false, false, false, false, false, false] rfl rfl (by kernel_rfl) (fun _ _ _ h => h) (Or.inl ⟨by rfl, ?_⟩) ?_ ?_
 rotate_left
 ·intro w'
  go_simp
  with_reducible rfl
 rotate_left
 ·simp only [Act.put, List.setIfInBounds_toArray, List.set_cons_zero, List.set_cons_succ]
  rfl
 refine pure_ (i := 4) (N := some 163) (v := ?_) (a' := ?_) #[true, true, true, true, true, false, false, false, false, false, false] rfl rfl (by kernel_rfl) (fun _ _ _ h => h) (Or.inl ⟨by rfl, ?_⟩) ?_ ?_
 rotate_left
 ·intro w'
  go_simp
  with_reducible rfl
 rotate_left
 ·simp only [Act.put, List.setIfInBounds_toArray, List.set_cons_zero, List.set_cons_succ]
  rfl
 refine take_ (i := 5) (N := some 164) (v := ?_) (a' := ?_) #[true, true, true, true, true, true, false, false, false, false, false] rfl rfl (by kernel_rfl) (fun _ _ _ h => h) (Or.inl ⟨by rfl, ?_⟩) (by first | exact hHeld | assumption) ?_ ?_
 rotate_left
 ·rintro w' ⟨s0, s1, s2, s3, s4, s5, s6, s7, s8, s9, s10⟩
  go_simp
  with_reducible rfl
 rotate_left
 ·simp only [Act.put, List.setIfInBounds_toArray, List.set_cons_zero, List.set_cons_succ]
  rfl
 refine take_ (i := 6) (N := some 165) (v := ?_) (a' := ?_) #[true, true, true, true, true, true, true, false, false, false, false] rfl rfl (by kernel_rfl) (fun _ _ _ h => h) (Or.inl ⟨by rfl, ?_⟩) (by first | exact hHeld | assumption) ?_ ?_
 rotate_left
 ·rintro w' ⟨s0, s1, s2, s3, s4, s5, s6, s7, s8, s9, s10⟩
  go_simp
  with_reducible rfl
 rotate_left
 ·simp only [Act.put, List.setIfInBounds_toArray, List.set_cons_zero, List.set_cons_succ]
  rfl
 refine pure_ (i := 7) (N := some 166) (v := ?_) (a' := ?_) #[true, true, true, true, true, true, true, true, false, false, false] rfl rfl (by kernel_rfl) (fun _ _ _ h => h) (Or.inl ⟨by rfl, ?_⟩) ?_ ?_
 rotate_left
 ·intro w'
  go_simp
  with_reducible rfl
 rotate_left
 ·simp only [Act.put, List.setIfInBounds_toArray, List.set_cons_zero, List.set_cons_succ]
  rfl
 refine pure_ (i := 8) (N := some 167) (v := ?_) (a' := ?_) #[true, true, true, true, true, true, true, true, true, false, false] rfl rfl (by kernel_rfl) (fun _ _ _ h => h) (Or.inl ⟨by rfl, ?_⟩) ?_ ?_
 rotate_left
 ·intro w'
  go_simp
  with_reducible rfl
 rotate_left
 ·simp only [Act.put, List.setIfInBounds_toArray, List.set_cons_zero, List.set_cons_succ]
  rfl
 refine one_ (i := 9) (N := none) #[true, true, true, true, true, true, true, true, true, true, false] rfl rfl (by kernel_rfl) (by decide) (fun K hK => ?_)
 have z6B : w8.heap[b6]? = some (.cells #[.slice none 0 0, .slice none 0 0, .int .i64 0, .int .i64 0, .int .i64 0] 41 (0, 0)) := T8.out.mem (by simp)
 have yb4B : w8.heap[b4]? = some (.cells #[.slice A0 l0.length c0, .slice A1 l1.length c1, .int .i64 a2, .int .i64 a3, .int .i64 a4] 41 (0, 0)) := T8.out.mem (by simp)
 have yb23B : w8.heap[b23]? = some (.cells #[.int .i64 p.f0, .int .i64 p.f1, .string p.f2] 60 (0, 0)) := T8.out.mem (by simp)
 have yb25B : w8.heap[b25]? = some (.cells #[.int .i64 p.f0, .int .i64 p.f1, .string p.f2] 27 (0, 0)) := T8.out.mem (by simp)
 have z60 := (blk_cell z6B 0).trans rfl
 have f60 := blk_frozen z6B 0
 have z61 := (blk_cell z6B 1).trans rfl
 have f61 := blk_frozen z6B 1
 have z62 := (blk_cell z6B 2).trans rfl
 have f62 := blk_frozen z6B 2
 have z63 := (blk_cell z6B 3).trans rfl
 have f63 := blk_frozen z6B 3
 have z64 := (blk_cell z6B 4).trans rfl
 have f64 := blk_frozen z6B 4
 refine skip_ (w1 := ?_) (by rfl) rfl ?_ ?_
 rotate_left
 ·go_simp
  rfl
 refine hK.out _ _ ⟨(blk_cell ((set5_far w8 b6 _ _ _ _ _ b4 N46.out).trans yb4B) 0).trans rfl, (blk_cell ((set5_far w8 b6 _ _ _ _ _ b4 N46.out).trans yb4B) 1).trans rfl, (blk_cell ((set5_far w8 b6 _ _ _ _ _ b4 N46.out).trans yb4B) 2).trans rfl, (blk_cell ((set5_far w8 b6 _ _ _ _ _ b4 N46.out).trans yb4B) 3).trans rfl, (blk_cell ((set5_far w8 b6 _ _ _ _ _ b4 N46.out).trans yb4B) 4).trans rfl, (blk_cell ((set5_far w8 b6 _ _ _ _ _ b23 N23.out).trans yb23B) 0).trans rfl, (blk_cell ((set5_far w8 b6 _ _ _ _ _ b23 N23.out).trans yb23B) 1).trans rfl, (blk_cell ((set5_far w8 b6 _ _ _ _ _ b23 N23.out).trans yb23B) 2).trans rfl, (blk_cell ((set5_far w8 b6 _ _ _ _ _ b25 N25.out).trans yb25B) 0).trans rfl, (blk_cell ((set5_far w8 b6 _ _ _ _ _ b25 N25.out).trans yb25B) 1).trans rfl, (blk_cell ((set5_far w8 b6 _ _ _ _ _ b25 N25.out).trans yb25B) 2).trans rfl⟩ (fun hHeld => ?_)
 clear hK K
 refine pure_ (i := 10) (N := some 7) (v := ?_) (a' := ?_) #[true, true, true, true, true, true, true, true, true, true, true] rfl rfl (by kernel_rfl) (fun _ _ _ h => h) (Or.inl ⟨by rfl, ?_⟩) ?_ ?_
 rotate_left
 ·intro w'
  go_simp
  with_reducible rfl
 rotate_left
 ·simp only [Act.put, List.setIfInBounds_toArray, List.set_cons_zero, List.set_cons_succ]
  rfl
 refine done_ (by kernel_rfl) ?_
 go_wp2
 refine bodyPost_ret (results_ct rfl _ _ b6 41 #[.slice A0 l0.length c0, .slice A1 l1.length c1, .int .i64 a2, .int .i64 a3, .int .i64 a4] (0, 0) _ rfl (set5_at w8 b6 _ _ _ _ _ _ _ _ _ _ z6B) Try.underlying41 rfl (by kernel_rfl)) rfl ?_
 exact ⟨_, _, rfl, M8.out.far z6B (by decide) (by decide) (fun k hk => set5_far w8 b6 _ _ _ _ _ k hk), Tr.set5 T8.out (k := b6) (o := .cells #[.slice none 0 0, .slice none 0 0, .int .i64 0, .int .i64 0, .int .i64 0] 41 (0, 0)) (by simp) Lb6.out _ _ _ _ _, O8.out.set5 Gb6.out _ _ _ _ _⟩
end Go.Proofs.Ytodkackgdchocaa.Q
