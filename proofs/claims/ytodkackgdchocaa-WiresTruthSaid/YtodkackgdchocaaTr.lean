/- A net in memory with blocks beside it, and each call of package wires told over it; the worked example and WiresFull walked, under no further conditions. -/
import Derived.Test.YtodkackgdchocaaNet2
namespace Go.Proofs.Ytodkackgdchocaa.Q
open Go.RowKit Go.Proofs.YtodkackgdchocaaW.PrintWords Go.Proofs.YtodkackgdchocaaW.PrintLast Go.Proofs.YtodkackgdchocaaW.PrintMore
set_option linter.unusedVariables false
set_option linter.unusedSimpArgs false
set_option maxHeartbeats 1000000
set_option maxRecDepth 10000
/-- A block that is neither the net's nor its row. -/
structure Apart1 (w : World) (g : Nat) (v : Value) (k : Nat) (o : Obj) : Prop where
  blk : w.heap[k]? = some o
  ne : k ≠ g
  own : some k ≠ v.ownBlock
theorem Apart1.keep {w w' : World} {g k : Nat} {v v' : Value} {o : Obj} (h : Apart1 w g v k o) (hk : NetKeep w w' g v v') : Apart1 w' g v' k o :=
  ⟨(hk.far k (blk_lt h.blk) h.ne h.own).trans h.blk, h.ne, by
    rcases hk.at' with e | ⟨b, e, hb⟩
    · rw [e]; exact h.own
    · rw [e]; intro hh; injection hh with hh; have := blk_lt h.blk; omega⟩
theorem Apart1.below {w w' : World} {g k : Nat} {v : Value} {o : Obj} (h : Apart1 w g v k o) (hb : Below w.heap.size w w') : Apart1 w' g v k o := ⟨blk_below h.blk hb, h.ne, h.own⟩
theorem Apart1.fresh {w : World} {base g : Nat} {v : Value} {n : NetS} (h : IsNet w base g v n) (o : Obj) : Apart1 (w.alloc o) g v w.heap.size o :=
  ⟨heap_alloc_new w o, by have := h.lt; omega, fun hh => by have := own_lt h.row _ hh.symm; omega⟩
/-- A net in memory, and blocks beside it. -/
def Tr (w0 w : World) (g : Nat) (n : NetS) (bs : List (Nat × Obj)) : Prop := Below w0.heap.size w0 w ∧ ∃ v, IsNet w w0.heap.size g v n ∧ ∀ q ∈ bs, Apart1 w g v q.1 q.2
/-- Blocks that are no net's stay. -/
def KeepT (w w' : World) : Prop := w.heap.size ≤ w'.heap.size ∧ ∀ k, k < w.heap.size → (∀ cs, w.heap[k]? ≠ some (.cells cs 56 (0, 0)) ∧ w.heap[k]? ≠ some (.cells cs 27 (0, 0))) → w'.heap[k]? = w.heap[k]?
theorem KeepT.of {w w' : World} {base g : Nat} {v v' : Value} {n : NetS} (h : IsNet w base g v n) (hk : NetKeep w w' g v v') : KeepT w w' :=
  ⟨hk.size, fun k hl ht => hk.far k hl (fun e => by subst e; exact (ht _).1 h.blk) (fun e => by
    obtain ⟨cs, hc⟩ := own_typed h.row k e.symm
    exact (ht cs).2 hc)⟩
theorem KeepT.below {w w' : World} (hb : Below w.heap.size w w') : KeepT w w' := ⟨hb.size, fun k hk _ => hb.block k hk⟩
theorem KeepT.trans {w w1 w2 : World} (h : KeepT w w1) (k : KeepT w1 w2) : KeepT w w2 :=
  ⟨Nat.le_trans h.1 k.1, fun i hi ht => by
    have e := h.2 i hi ht
    exact (k.2 i (Nat.lt_of_lt_of_le hi h.1) (fun cs => by rw [e]; exact ht cs)).trans e⟩
/-- A row of the reference's packets stays. -/
theorem KeepT.row {α : Type} {d : Kd α} {e : Nat} {w w' : World} {base : Nat} {ok : Nat → Prop} {v : Value} {xs : List α} (hk : KeepT w w') (h : d.R e w base ok v xs) (ht : ∀ q, q ∈ e :: d.E → q ≠ 56 ∧ q ≠ 27) : d.R e w' base ok v xs :=
  Kd.R_mono (Kd.R_move (Kd.R_bound h) (fun k hq => by
    obtain ⟨_, _, hl, q, hq1, cells, hc⟩ := hq
    refine hk.2 k hl (fun cs => ?_)
    rw [hc]
    refine ⟨fun e => ?_, fun e => ?_⟩
    · injection e with e; injection e with _ e _; exact (ht q hq1).1 e
    · injection e with e; injection e with _ e _; exact (ht q hq1).2 e)) (fun _ hq => hq.1)
section
variable {w0 w w' : World} {g : Nat} {n : NetS} {bs : List (Nat × Obj)}
theorem Tr.below (h : Tr w0 w g n bs) (hb : Below w.heap.size w w') : Tr w0 w' g n bs := by
  obtain ⟨h0, v, h1, h2⟩ := h
  exact ⟨below_step h0 hb, v, h1.below hb, fun q hq => (h2 q hq).below hb⟩
theorem Tr.drewN (h : Tr w0 w g n bs) (q : Nat) : Tr w0 (w.drewN q) g n bs := h.below (pw_below_drewN (Below.refl _ _) q)
theorem Tr.drew (h : Tr w0 w g n bs) : Tr w0 w.drew g n bs := h.below (below_drew1 (Below.refl _ _))
theorem Tr.alloc (h : Tr w0 w g n bs) (o : Obj) : Tr w0 (w.alloc o) g n bs := h.below (below_alloc (Below.refl _ _) o)
theorem Tr.push (h : Tr w0 w g n bs) (o : Obj) : Tr w0 (w.alloc o) g n ((w.heap.size, o) :: bs) := by
  obtain ⟨h0, v, h1, h2⟩ := h
  refine ⟨h0.alloc h0.size o, v, h1.alloc o, fun q hq => ?_⟩
  rcases List.mem_cons.1 hq with rfl | hq
  · exact Apart1.fresh h1 o
  · exact (h2 q hq).below (below_alloc (Below.refl _ _) _)
theorem Tr.mem (h : Tr w0 w g n bs) {k : Nat} {o : Obj} (hq : (k, o) ∈ bs) : w.heap[k]? = some o := by
  obtain ⟨h0, v, h1, h2⟩ := h
  exact (h2 _ hq).blk
theorem Tr.sub (h : Tr w0 w g n bs) {bs' : List (Nat × Obj)} (hs : ∀ q ∈ bs', q ∈ bs) : Tr w0 w g n bs' := by
  obtain ⟨h0, v, h1, h2⟩ := h
  exact ⟨h0, v, h1, fun q hq => h2 q (hs q hq)⟩
theorem Tr.lt (h : Tr w0 w g n bs) : g < w.heap.size := by
  obtain ⟨h0, v, h1, h2⟩ := h
  exact h1.lt
theorem Tr.le (h : Tr w0 w g n bs) : n.l.length ≤ 4096 := by
  obtain ⟨h0, v, h1, h2⟩ := h
  exact h1.le
theorem Tr.cl (h : Tr w0 w g n bs) : n.cut.length = 49 := by
  obtain ⟨h0, v, h1, h2⟩ := h
  exact h1.cl
theorem Tr.ok (h : Tr w0 w g n bs) : ∀ p ∈ n.l, 0 ≤ p.f0 ∧ p.f0 < 7 ∧ 0 ≤ p.f1 ∧ p.f1 < 7 := by
  obtain ⟨h0, v, h1, h2⟩ := h
  exact h1.ok
theorem Tr.of {v v' : Value} {n' : NetS} (hk : NetKeep w w' g v v') (hN : IsNet w' w0.heap.size g v' n') (hB : Below w0.heap.size w0 w') (h2 : ∀ q ∈ bs, Apart1 w g v q.1 q.2) : Tr w0 w' g n' bs := ⟨hB, v', hN, fun q hq => (h2 q hq).keep hk⟩
theorem T_New (hB : Below w0.heap.size w0 w) (hbs : ∀ q ∈ bs, w.heap[q.1]? = some q.2) :
    Calls Try.prog 9 #[] w fun e w' => ∃ g, e = .returned (.pointer (some ⟨g, 0, none⟩)) ∧ Tr w0 w' g net0 bs ∧ w0.heap.size ≤ g ∧ Below w.heap.size w w' := by
  refine (wires_New.calls w0.heap.size w hB.size).mono ?_
  rintro e w' ⟨rfl, hn, hb⟩
  refine ⟨_, rfl, ⟨below_step hB hb, _, hn, fun q hq => ⟨blk_below (hbs q hq) hb, ?_, by simp [Value.ownBlock]⟩⟩, hB.size, hb⟩
  have := blk_lt (hbs q hq)
  omega
theorem T_Len (h : Tr w0 w g n bs) : Calls Try.prog 13 #[.pointer (some ⟨g, 0, none⟩)] w fun e w' => e = .returned (.int .i64 n.l.length) ∧ w' = w := by
  obtain ⟨h0, v, h1, h2⟩ := h
  exact wires_Len.calls _ g v n w h1
theorem T_Counts (h : Tr w0 w g n bs) : Calls Try.prog 19 #[.pointer (some ⟨g, 0, none⟩)] w fun e w' => e = .returned (.tuple #[.int .i64 n.a, .int .i64 n.b, .int .i64 n.c]) ∧ ∃ q, w' = w.drewN q := by
  obtain ⟨h0, v, h1, h2⟩ := h
  exact wires_Counts.calls _ g v n w h1
theorem T_Send (p : S60) (h : Tr w0 w g n bs) : Calls Try.prog 11 #[.pointer (some ⟨g, 0, none⟩), .agg #[.int .i64 p.f0, .int .i64 p.f1, .string p.f2]] w fun e w' => e = .returned (.bool (n.send p).2) ∧ Tr w0 w' g (n.send p).1 bs ∧ KeepT w w' := by
  obtain ⟨h0, v, h1, h2⟩ := h
  unfold NetS.send
  by_cases hd : 0 ≤ p.f0 ∧ p.f0 < 7 ∧ 0 ≤ p.f1 ∧ p.f1 < 7 ∧ p.f0 ≠ p.f1
  · rw [if_pos hd]
    by_cases hc : n.isCut p.f0 p.f1 = true
    · rw [if_pos (.inl hc)]
      refine (wires_Send.cut w0 g v n p w h1 h0 hd hc).mono ?_
      rintro e w' ⟨rfl, a, b, c⟩
      exact ⟨rfl, Tr.of c a b h2, KeepT.of h1 c⟩
    · have hc : n.isCut p.f0 p.f1 = false := by simpa using hc
      by_cases hl : 4096 ≤ n.l.length
      · rw [if_pos (.inr hl)]
        refine (wires_Send.full w0 g v n p w h1 h0 hd hc hl).mono ?_
        rintro e w' ⟨rfl, a, b, c⟩
        exact ⟨rfl, Tr.of c a b h2, KeepT.of h1 c⟩
      · rw [if_neg (by rw [hc]; simp; omega)]
        refine (wires_Send.ok w0 g v n p w h1 h0 hd hc (by omega)).mono ?_
        rintro e w' ⟨v', rfl, a, b, c⟩
        exact ⟨rfl, Tr.of c a b h2, KeepT.of h1 c⟩
  · rw [if_neg hd]
    refine (wires_Send.bad w0 g v n p w h1 h0 hd).mono ?_
    rintro e w' ⟨rfl, a, b, c⟩
    exact ⟨rfl, Tr.of c a b h2, KeepT.of h1 c⟩
/-- At, told plainly. -/
def NetS.at_ (n : NetS) (i : Int) : S60 × Bool := if 0 ≤ i ∧ i < n.l.length then (n.l.getD i.toNat z60, true) else (z60, false)
theorem T_At (i : Int) (h : Tr w0 w g n bs) : Calls Try.prog 20 #[.pointer (some ⟨g, 0, none⟩), .int .i64 i] w fun e w' => e = .returned (.tuple #[.agg #[.int .i64 (n.at_ i).1.f0, .int .i64 (n.at_ i).1.f1, .string (n.at_ i).1.f2], .bool (n.at_ i).2]) ∧ Below w.heap.size w w' := by
  obtain ⟨h0, v, h1, h2⟩ := h
  unfold NetS.at_
  by_cases hi : 0 ≤ i ∧ i < n.l.length
  · rw [if_pos hi]
    exact wires_At.calls _ g v n i w h1 hi.1 hi.2 _ rfl
  · rw [if_neg hi]
    exact wires_At.out _ g v n i w h1 (by omega)
def NetS.take (n : NetS) (i : Int) : NetS × S60 × Bool := if 0 ≤ i ∧ i < n.l.length then ({ n with l := n.l.eraseIdx i.toNat, b := wrap64 (n.b + 1) }, n.l.getD i.toNat z60, true) else (n, z60, false)
theorem T_Take (i : Int) (h : Tr w0 w g n bs) : Calls Try.prog 14 #[.pointer (some ⟨g, 0, none⟩), .int .i64 i] w fun e w' => e = .returned (.tuple #[.agg #[.int .i64 (n.take i).2.1.f0, .int .i64 (n.take i).2.1.f1, .string (n.take i).2.1.f2], .bool (n.take i).2.2]) ∧ Tr w0 w' g (n.take i).1 bs ∧ KeepT w w' := by
  have hT := h
  obtain ⟨h0, v, h1, h2⟩ := h
  unfold NetS.take
  by_cases hi : 0 ≤ i ∧ i < n.l.length
  · rw [if_pos hi]
    refine (wires_Take.calls w0 g v n i w h1 h0 hi.1 hi.2 _ rfl).mono ?_
    rintro e w' ⟨v', rfl, a, b, c⟩
    exact ⟨rfl, Tr.of c a b h2, KeepT.of h1 c⟩
  · rw [if_neg hi]
    refine (wires_Take.out _ g v n i w h1 (by omega)).mono ?_
    rintro e w' ⟨rfl, a⟩
    exact ⟨rfl, hT.below a, KeepT.below a⟩
def NetS.drop (n : NetS) (i : Int) : NetS × Bool := if 0 ≤ i ∧ i < n.l.length then ({ n with l := n.l.eraseIdx i.toNat, c := wrap64 (n.c + 1) }, true) else (n, false)
theorem T_Drop (i : Int) (h : Tr w0 w g n bs) : Calls Try.prog 22 #[.pointer (some ⟨g, 0, none⟩), .int .i64 i] w fun e w' => e = .returned (.bool (n.drop i).2) ∧ Tr w0 w' g (n.drop i).1 bs ∧ KeepT w w' := by
  have hT := h
  obtain ⟨h0, v, h1, h2⟩ := h
  unfold NetS.drop
  by_cases hi : 0 ≤ i ∧ i < n.l.length
  · rw [if_pos hi]
    refine (wires_Drop.calls w0 g v n i w h1 h0 hi.1 hi.2 _ rfl).mono ?_
    rintro e w' ⟨v', rfl, a, b, c⟩
    exact ⟨rfl, Tr.of c a b h2, KeepT.of h1 c⟩
  · rw [if_neg hi]
    refine (wires_Drop.out _ g v n i w h1 (by omega)).mono ?_
    rintro e w' ⟨rfl, a⟩
    exact ⟨rfl, hT.below a, KeepT.below a⟩
def NetS.double (n : NetS) (i : Int) : NetS × Bool := if 0 ≤ i ∧ i < n.l.length then (if 4096 ≤ n.l.length then (n, false) else ({ n with l := n.l ++ [n.l.getD i.toNat z60], a := wrap64 (n.a + 1) }, true)) else (n, false)
theorem T_Double (i : Int) (h : Tr w0 w g n bs) : Calls Try.prog 12 #[.pointer (some ⟨g, 0, none⟩), .int .i64 i] w fun e w' => e = .returned (.bool (n.double i).2) ∧ Tr w0 w' g (n.double i).1 bs ∧ KeepT w w' := by
  have hT := h
  obtain ⟨h0, v, h1, h2⟩ := h
  unfold NetS.double
  by_cases hi : 0 ≤ i ∧ i < n.l.length
  · rw [if_pos hi]
    by_cases hl : 4096 ≤ n.l.length
    · rw [if_pos hl]
      refine (wires_Double.full _ g v n i w h1 hi.1 hi.2 hl).mono ?_
      rintro e w' ⟨rfl, a⟩
      exact ⟨rfl, hT.below a, KeepT.below a⟩
    · rw [if_neg hl]
      refine (wires_Double.calls w0 g v n i w h1 h0 hi.1 hi.2 (by omega) _ rfl).mono ?_
      rintro e w' ⟨v', rfl, a, b, c⟩
      exact ⟨rfl, Tr.of c a b h2, KeepT.of h1 c⟩
  · rw [if_neg hi]
    refine (wires_Double.out _ g v n i w h1 (by omega)).mono ?_
    rintro e w' ⟨rfl, a⟩
    exact ⟨rfl, hT.below a, KeepT.below a⟩
theorem T_Heal (h : Tr w0 w g n bs) : Calls Try.prog 16 #[.pointer (some ⟨g, 0, none⟩)] w fun e w' => e = .returned (.tuple #[]) ∧ Tr w0 w' g { n with cut := List.replicate 49 false } bs ∧ KeepT w w' := by
  obtain ⟨h0, v, h1, h2⟩ := h
  refine (wires_Heal.calls w0 g v n w h1 h0).mono ?_
  rintro e w' ⟨rfl, a, b, c⟩
  exact ⟨rfl, Tr.of c a b h2, KeepT.of h1 c⟩
theorem wires_Cut.bad (g : Nat) (a b : Int) (w : World) (hd : ¬ (0 ≤ a ∧ a < 7 ∧ 0 ≤ b ∧ b < 7 ∧ a ≠ b)) :
    Calls Try.prog 15 #[.pointer (some ⟨g, 0, none⟩), .int .i64 a, .int .i64 b] w fun e w' => e = .returned (.int .i64 0) ∧ Below w.heap.size w w' := by
  have A := Aside0.mk (wires_two.of a b)
  rw [decide_eq_false hd] at A
  clear hd
  go_enter Try.func15, Try.ntmps15
  go_wp2_with (first | (go_at_call 24; (refine (wires_two.calls a b false _ A.out).mono ?_); rintro e w' ⟨rfl, ⟨⟨q, rfl⟩⟩⟩))
  go_ret
  exact ⟨rfl, pw_below_drewN (below_alloc (Below.refl w.heap.size w) _) _⟩
def NetS.cutN (n : NetS) (a b : Int) : NetS × Int := if 0 ≤ a ∧ a < 7 ∧ 0 ≤ b ∧ b < 7 ∧ a ≠ b then ((n.cutAB a b).lose (fun x => (n.cutAB a b).isCut x.f0 x.f1), (n.l.length : Int) - ((n.l.filter fun x => !(n.cutAB a b).isCut x.f0 x.f1).length : Int)) else (n, 0)
theorem T_Cut (a b : Int) (h : Tr w0 w g n bs) : Calls Try.prog 15 #[.pointer (some ⟨g, 0, none⟩), .int .i64 a, .int .i64 b] w fun e w' => e = .returned (.int .i64 (n.cutN a b).2) ∧ Tr w0 w' g (n.cutN a b).1 bs ∧ KeepT w w' := by
  have hT := h
  obtain ⟨h0, v, h1, h2⟩ := h
  unfold NetS.cutN
  by_cases hd : 0 ≤ a ∧ a < 7 ∧ 0 ≤ b ∧ b < 7 ∧ a ≠ b
  · rw [if_pos hd]
    refine (wires_Cut.calls w0 g v n a b w h1 h0 hd).mono ?_
    rintro e w' ⟨v', rfl, x, y, c⟩
    exact ⟨rfl, Tr.of c x y h2, KeepT.of h1 c⟩
  · rw [if_neg hd]
    refine (wires_Cut.bad g a b w hd).mono ?_
    rintro e w' ⟨rfl, x⟩
    exact ⟨rfl, hT.below x, KeepT.below x⟩
theorem T_Clear (node : Int) (h : Tr w0 w g n bs) : Calls Try.prog 23 #[.pointer (some ⟨g, 0, none⟩), .int .i64 node] w fun e w' => e = .returned (.int .i64 ((n.l.length : Int) - ((n.l.filter fun x => !(x.f1 == node)).length : Int))) ∧ Tr w0 w' g (n.lose fun x => x.f1 == node) bs ∧ KeepT w w' := by
  obtain ⟨h0, v, h1, h2⟩ := h
  refine (wires_Clear.calls w0 g v n node w h1 h0).mono ?_
  rintro e w' ⟨v', rfl, x, y, c⟩
  exact ⟨rfl, Tr.of c x y h2, KeepT.of h1 c⟩
end
theorem ws1 : wrap64 1 = 1 := by unfold wrap64; omega
theorem ws2 : wrap64 2 = 2 := by unfold wrap64; omega
/-- awake is true, and leaves what was there. -/
theorem stowagelaw08_awake.calls (w : World) :
    Calls Try.prog 10 #[] w fun e w' => e = .returned (.bool true) ∧ Below w.heap.size w w' := by
  go_enter Try.func10, Try.ntmps10
  go_wp2_with (fail)
  refine (T_New (w0 := w) (bs := []) (Below.refl _ _) (fun q hq => by cases hq)).mono ?_
  rintro e w1 ⟨g, rfl, hT, hg, hb⟩
  obtain ⟨gp, hgp⟩ : ∃ gp, gp = w1.heap.size := ⟨_, rfl⟩
  have T1 := Aside0.mk (hT.push (.cells #[.int .i64 0, .int .i64 1, .string ⟨#[97]⟩] 27))
  rw [← hgp] at T1
  clear hT hg hb
  go_wp2_with (fail)
  refine (T_Send ⟨0, 1, ⟨#[97]⟩⟩ T1.out).mono ?_
  rw [← hgp]
  clear hgp
  rintro e w2 ⟨rfl, hT, _⟩
  have es : (net0.send ⟨0, 1, ⟨#[97]⟩⟩) = (⟨[⟨0, 1, ⟨#[97]⟩⟩], List.replicate 49 false, 1, 0, 0⟩, true) := by unfold NetS.send; rw [if_pos (by decide), if_neg (by decide)]; simp [net0, ws1, ws2]
  rw [es] at hT ⊢
  have T2 := Aside0.mk hT
  clear hT T1 es
  go_wp2_with (fail)
  refine (T_Double 0 T2.out).mono ?_
  rintro e w3 ⟨rfl, hT, _⟩
  have es : (NetS.double ⟨[⟨0, 1, ⟨#[97]⟩⟩], List.replicate 49 false, 1, 0, 0⟩ 0) = (⟨[⟨0, 1, ⟨#[97]⟩⟩, ⟨0, 1, ⟨#[97]⟩⟩], List.replicate 49 false, 2, 0, 0⟩, true) := by unfold NetS.double; rw [if_pos (by decide), if_neg (by decide)]; simp [net0, ws1, ws2]
  rw [es] at hT ⊢
  have T3 := Aside0.mk hT
  clear hT T2 es
  go_wp2_with (fail)
  refine (T_Take 1 T3.out).mono ?_
  rintro e w4 ⟨rfl, hT, _⟩
  have es : (NetS.take ⟨[⟨0, 1, ⟨#[97]⟩⟩, ⟨0, 1, ⟨#[97]⟩⟩], List.replicate 49 false, 2, 0, 0⟩ 1) = (⟨[⟨0, 1, ⟨#[97]⟩⟩], List.replicate 49 false, 2, 1, 0⟩, ⟨0, 1, ⟨#[97]⟩⟩, true) := by unfold NetS.take; rw [if_pos (by decide)]; simp [ws1, ws2]
  rw [es] at hT ⊢
  obtain ⟨g3, hg3⟩ : ∃ gp, gp = w4.heap.size := ⟨_, rfl⟩
  have T4 := Aside0.mk (hT.push (.cells #[.int .i64 0, .int .i64 1, .string ⟨#[97]⟩] 27))
  rw [← hg3] at T4
  clear hT T3 es
  go_wp2_with (fail)
  refine (T_Take 0 T4.out).mono ?_
  rw [← hg3]
  clear hg3
  rintro e w5 ⟨rfl, hT, _⟩
  have es : (NetS.take ⟨[⟨0, 1, ⟨#[97]⟩⟩], List.replicate 49 false, 2, 1, 0⟩ 0) = (⟨[], List.replicate 49 false, 2, 2, 0⟩, ⟨0, 1, ⟨#[97]⟩⟩, true) := by unfold NetS.take; rw [if_pos (by decide)]; simp [ws1, ws2]
  rw [es] at hT ⊢
  obtain ⟨g5, hg5⟩ : ∃ gp, gp = w5.heap.size := ⟨_, rfl⟩
  have T5 := Aside0.mk (hT.push (.cells #[.int .i64 0, .int .i64 1, .string ⟨#[97]⟩] 27))
  have B2 : Aside0 (w5.heap[gp]? = some (.cells #[.int .i64 0, .int .i64 1, .string ⟨#[97]⟩] 27)) := ⟨hT.mem (by simp)⟩
  have B3 : Aside0 (w5.heap[g3]? = some (.cells #[.int .i64 0, .int .i64 1, .string ⟨#[97]⟩] 27)) := ⟨hT.mem (by simp)⟩
  have l2 := blk_lt B2.out
  have l3 := blk_lt B3.out
  have q20 := (blk_cell B2.out 0).trans rfl
  have q21 := (blk_cell B2.out 1).trans rfl
  have q22 := (blk_cell B2.out 2).trans rfl
  have q30 := (blk_cell B3.out 0).trans rfl
  have q31 := (blk_cell B3.out 1).trans rfl
  have q32 := (blk_cell B3.out 2).trans rfl
  clear hT T4 es hg5
  go_wp2_with (fail)
  refine (T_Len T5.out).mono ?_
  rintro e w6 ⟨rfl, rfl⟩
  go_wp2
  go_ret
  exact ⟨rfl, T5.out.1⟩
theorem tmod_lo (a : Int) (m : Int) (hm : 0 < m) : -m < a.tmod m := by
  rcases Int.le_total 0 a with h | h
  · have := Int.tmod_nonneg m h
    omega
  · have h1 : a.tmod m = -((-a).tmod m) := by rw [Int.neg_tmod]; omega
    have := Int.tmod_lt_of_pos (-a) hm
    omega
theorem md7 (a : Int) : 0 ≤ (wrap64 (a.tmod 7 + 7)).tmod 7 ∧ (wrap64 (a.tmod 7 + 7)).tmod 7 < 7 := by
  have h1 : -7 < a.tmod 7 := by exact tmod_lo a 7 (by decide)
  have h2 : a.tmod 7 < 7 := Int.tmod_lt_of_pos a (by decide)
  have h3 : wrap64 (a.tmod 7 + 7) = a.tmod 7 + 7 := by unfold wrap64; omega
  rw [h3, Int.tmod_eq_emod_of_nonneg (by omega)]
  omega
theorem md6 (a : Int) : 0 ≤ (wrap64 (a.tmod 6 + 6)).tmod 6 ∧ (wrap64 (a.tmod 6 + 6)).tmod 6 < 6 := by
  have h1 : -6 < a.tmod 6 := by exact tmod_lo a 6 (by decide)
  have h2 : a.tmod 6 < 6 := Int.tmod_lt_of_pos a (by decide)
  have h3 : wrap64 (a.tmod 6 + 6) = a.tmod 6 + 6 := by unfold wrap64; omega
  rw [h3, Int.tmod_eq_emod_of_nonneg (by omega)]
  omega
theorem other7 (x d : Int) (hx : 0 ≤ x ∧ x < 7) (hd : 0 ≤ d ∧ d < 6) : 0 ≤ (wrap64 (wrap64 (x + 1) + d)).tmod 7 ∧ (wrap64 (wrap64 (x + 1) + d)).tmod 7 < 7 ∧ (wrap64 (wrap64 (x + 1) + d)).tmod 7 ≠ x := by
  have h3 : wrap64 (x + 1) = x + 1 := by unfold wrap64; omega
  have h4 : wrap64 (x + 1 + d) = x + 1 + d := by unfold wrap64; omega
  rw [h3, h4, Int.tmod_eq_emod_of_nonneg (by omega)]
  omega
theorem uncut (n : NetS) (h : n.cut = List.replicate 49 false) (i j : Int) : n.isCut i j = false := by
  unfold NetS.isCut
  rw [h, List.getD_eq_getElem?_getD, List.getElem?_replicate]
  split <;> rfl
/-- A send that is taken. -/
theorem send_ok (n : NetS) (h : n.cut = List.replicate 49 false) (p : S60) (hp : 0 ≤ p.f0 ∧ p.f0 < 7 ∧ 0 ≤ p.f1 ∧ p.f1 < 7 ∧ p.f0 ≠ p.f1) (hl : n.l.length < 4096) : n.send p = ({ n with l := n.l ++ [p], a := wrap64 (n.a + 1) }, true) := by
  unfold NetS.send
  rw [if_pos hp, if_neg (by rw [uncut n h]; simp; omega)]
theorem send_full (n : NetS) (p : S60) (hl : 4096 ≤ n.l.length) : n.send p = ({ n with a := wrap64 (n.a + 1), c := wrap64 (n.c + 1) }, false) := by
  unfold NetS.send
  split
  · rw [if_pos (.inr hl)]
  · rfl
theorem stowagelaw08_WiresFull.calls (a b : Int) (w : World) :
    Calls Try.prog 3 #[.int .i64 a, .int .i64 b] w fun e w' => e = .returned (.bool true) ∧ Below w.heap.size w w' := by
  have hx := md7 a
  have hy := other7 _ _ hx (md6 b)
  have HXY := Aside0.mk (And.intro hx hy)
  clear hx hy
  go_enter Try.func3, Try.ntmps3
  go_wp2_with (fail)
  refine (T_New (w0 := w) (bs := []) (Below.refl _ _) (fun q hq => by cases hq)).mono ?_
  rintro e w1 ⟨g, rfl, hT, hg, hb⟩
  have T1 := Aside0.mk hT
  clear hT hg hb
  go_wp2_with (fail)
  generalize (wrap64 (wrap64 ((wrap64 (a.tmod 7 + 7)).tmod 7 + 1) + (wrap64 (b.tmod 6 + 6)).tmod 6)).tmod 7 = y at HXY ⊢
  generalize (wrap64 (a.tmod 7 + 7)).tmod 7 = x at HXY ⊢
  refine (stowagelaw08_awake.calls w1).mono ?_
  rintro e w2 ⟨rfl, hb⟩
  have T2 := Aside0.mk (T1.out.below hb)
  clear hb T1
  obtain ⟨M, hM⟩ : ∃ M, M = 4096 := ⟨_, rfl⟩
  go_wp2
  go_loopg [8] M (fun gg s8 wr => ∃ (i : Nat) (n : NetS), s8 = .int .i64 (i : Int) ∧ i ≤ M ∧ M - i ≤ gg ∧ Aside0 (n.l.length = i ∧ n.cut = List.replicate 49 false) ∧ Aside0 (Tr w wr g n []))
  case atStart => exact ⟨0, net0, rfl, Nat.zero_le _, Nat.le_refl _, ⟨rfl, rfl⟩, T2⟩
  case round =>
    obtain ⟨i, n, rfl, hiM, hgg, HN, HT⟩ := hrel
    clear T2
    by_cases hlt : i < M
    · have hd : decide ((i : Int) < 4096) = true := decide_eq_true (by omega)
      go_wp2_with (fail)
      refine (T_Send ⟨x, y, ⟨#[]⟩⟩ HT.out).mono ?_
      have es := send_ok n HN.out.2 ⟨x, y, ⟨#[]⟩⟩ ⟨HXY.out.1.1, HXY.out.1.2, HXY.out.2.1, HXY.out.2.2.1, Ne.symm HXY.out.2.2.2⟩ (by rw [HN.out.1]; omega)
      rw [es]
      rintro e w3 ⟨rfl, hT, _⟩
      have T3 := Aside0.mk hT
      clear hT es
      go_wp2
      go_roundg (M - (i + 1))
      case measure => omega
      case rel =>
        exact ⟨i + 1, { n with l := n.l ++ [⟨x, y, ⟨#[]⟩⟩], a := wrap64 (n.a + 1) }, by simp, by omega, Nat.le_refl _, ⟨by simp [HN.out.1], HN.out.2⟩, T3⟩
    · have hd : decide ((i : Int) < 4096) = false := decide_eq_false (by omega)
      have hi : i = 4096 := by omega
      have HI := Aside0.mk hi
      clear hi
      go_wp2_with (fail)
      refine (T_Send ⟨x, y, ⟨#[]⟩⟩ HT.out).mono ?_
      rw [send_full n _ (by rw [HN.out.1, HI.out]; exact Nat.le_refl _)]
      rintro e w3 ⟨rfl, hT, _⟩
      have T3 := Aside0.mk hT
      clear hT
      go_wp2_with (fail)
      refine (T_Double 0 T3.out).mono ?_
      have hl : n.l.length = 4096 := by rw [HN.out.1, HI.out]
      have es : NetS.double { n with a := wrap64 (n.a + 1), c := wrap64 (n.c + 1) } 0 = ({ n with a := wrap64 (n.a + 1), c := wrap64 (n.c + 1) }, false) := by
        unfold NetS.double
        rw [if_pos (by constructor <;> simp [hl]), if_pos (by simp [hl])]
      have HL := Aside0.mk hl
      rw [es]
      clear hl es
      rintro e w4 ⟨rfl, hT, _⟩
      have T4 := Aside0.mk hT
      clear hT T3
      go_wp2_with (fail)
      refine (T_Len T4.out).mono ?_
      rintro e w5 ⟨rfl, rfl⟩
      simp only [HL.out]
      go_wp2_with (fail)
      refine (T_Take 7 T4.out).mono ?_
      have es : NetS.take { n with a := wrap64 (n.a + 1), c := wrap64 (n.c + 1) } 7 = ({ n with l := n.l.eraseIdx 7, a := wrap64 (n.a + 1), b := wrap64 (n.b + 1), c := wrap64 (n.c + 1) }, n.l.getD 7 z60, true) := by
        unfold NetS.take
        rw [if_pos (by constructor <;> simp [HL.out])]
        rfl
      obtain ⟨p7, hp7⟩ : ∃ p7, p7 = n.l.getD 7 z60 := ⟨_, rfl⟩
      rw [← hp7] at es
      rw [es]
      clear es hp7
      rintro e w6 ⟨rfl, hT, _⟩
      have T6 := Aside0.mk (hT.alloc (.cells #[.int .i64 p7.f0, .int .i64 p7.f1, .string p7.f2] 27))
      clear hT T4
      have hl7 : Aside0 ((n.l.eraseIdx 7).length = 4095) := ⟨by rw [List.length_eraseIdx, if_pos (by rw [HL.out]; decide), HL.out]⟩
      go_wp2_with (fail)
      refine (T_Send ⟨y, x, ⟨#[]⟩⟩ T6.out).mono ?_
      rw [send_ok _ (by exact HN.out.2) _ ⟨HXY.out.2.1, HXY.out.2.2.1, HXY.out.1.1, HXY.out.1.2, HXY.out.2.2.2⟩ (by show (n.l.eraseIdx 7).length < 4096; rw [hl7.out]; decide)]
      rintro e w7 ⟨rfl, hT, _⟩
      have T7 := Aside0.mk hT
      clear hT T6
      go_wp2_with (fail)
      refine (T_Send ⟨x, y, ⟨#[]⟩⟩ T7.out).mono ?_
      rw [send_full _ _ (by show 4096 ≤ (n.l.eraseIdx 7 ++ [_]).length; rw [List.length_append, hl7.out]; exact Nat.le_refl _)]
      rintro e w8 ⟨rfl, hT, _⟩
      have T8 := Aside0.mk hT
      clear hT T7
      go_wp2
      go_ret
      exact ⟨rfl, T8.out.1⟩
end Go.Proofs.Ytodkackgdchocaa.Q
