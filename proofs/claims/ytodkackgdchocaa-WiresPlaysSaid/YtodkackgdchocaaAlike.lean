/- A net in memory and the reference's net stay alike, whatever happens to both; and says tells that they are alike. -/
import Derived.Test.YtodkackgdchocaaOne
namespace Go.Proofs.Ytodkackgdchocaa.Q
open Go.RowKit Go.Proofs.YtodkackgdchocaaW.PrintWords Go.Proofs.YtodkackgdchocaaW.PrintLast Go.Proofs.YtodkackgdchocaaW.PrintMore
set_option linter.unusedVariables false
set_option linter.unusedSimpArgs false
set_option maxHeartbeats 8000000
set_option maxRecDepth 10000
theorem Node.of (a : Int) : stowageref08_Node.f a = some (decide (0 ≤ a ∧ a < 7)) := by
 unfold stowageref08_Node.f
 by_cases h : a ≥ 0
 ·rw [if_pos h]
  have : (0 : Int) ≤ a := h
  simp [this]
 ·rw [if_neg h]
  have : ¬ (0 : Int) ≤ a := h
  simp [this]
theorem cutAB_isCut (n : NetS) (h : n.cut.length = 49) (a b i j : Int) (ha : 0 ≤ a ∧ a < 7) (hb : 0 ≤ b ∧ b < 7) (hi : 0 ≤ i ∧ i < 7) (hj : 0 ≤ j ∧ j < 7) :
  (n.cutAB a b).isCut i j = (n.isCut i j || (decide (i = a ∧ j = b) || decide (i = b ∧ j = a))) := by
 unfold NetS.isCut NetS.cutAB
 simp only [List.getD_eq_getElem?_getD, List.getElem?_set, List.length_set, h]
 by_cases h1 : i = b ∧ j = a
 ·obtain ⟨rfl, rfl⟩ := h1
  rw [if_pos rfl, if_pos (by omega)]
  simp
 ·rw [if_neg (by omega)]
  by_cases h2 : i = a ∧ j = b
  ·obtain ⟨rfl, rfl⟩ := h2
   rw [if_pos rfl, if_pos (by omega)]
   simp
  ·rw [if_neg (by omega)]
   have e1 : decide (i = a ∧ j = b) = false := decide_eq_false h2
   have e2 : decide (i = b ∧ j = a) = false := decide_eq_false h1
   rw [e1, e2, Bool.or_self, Bool.or_false]
/-- A send over a way that is not cut. -/
theorem send_go (n : NetS) (p : S60) (hp : 0 ≤ p.f0 ∧ p.f0 < 7 ∧ 0 ≤ p.f1 ∧ p.f1 < 7 ∧ p.f0 ≠ p.f1) (hc : n.isCut p.f0 p.f1 = false) (hl : n.l.length < 4096) : n.send p = ({ n with l := n.l ++ [p], a := wrap64 (n.a + 1) }, true) := by
 unfold NetS.send
 rw [if_pos hp, if_neg (by rw [hc]; simp; omega)]
/-- A send over a way that is cut. -/
theorem send_cut (n : NetS) (p : S60) (hp : 0 ≤ p.f0 ∧ p.f0 < 7 ∧ 0 ≤ p.f1 ∧ p.f1 < 7 ∧ p.f0 ≠ p.f1) (hc : n.isCut p.f0 p.f1 = true) : n.send p = ({ n with a := wrap64 (n.a + 1), c := wrap64 (n.c + 1) }, false) := by
 unfold NetS.send
 rw [if_pos hp, if_pos (.inl hc)]
def anyCut (l1 : List S71) (a b : Int) : Bool := l1.any fun c => (decide (c.f0 = a) && decide (c.f1 = b)) || (decide (c.f0 = b) && decide (c.f1 = a))
theorem rd71 (l : List S71) (j : Nat) : rd_T71 l (j : Int) = l.getD j z71 := rfl
theorem rd60 (l : List S60) (j : Nat) : rd_T60 l (j : Int) = l.getD j z60 := rfl
theorem drop71 (l : List S71) (i : Nat) (hi : i < l.length) : l.drop i = l.getD i z71 :: l.drop (i + 1) := by
 rw [List.drop_eq_getElem_cons hi, List.getD_eq_getElem?_getD, List.getElem?_eq_getElem hi]
 rfl
theorem drop60 (l : List S60) (i : Nat) (hi : i < l.length) : l.drop i = l.getD i z60 :: l.drop (i + 1) := by
 rw [List.drop_eq_getElem_cons hi, List.getD_eq_getElem?_getD, List.getElem?_eq_getElem hi]
 rfl
theorem wrapn (j : Nat) (h : j < 4611686018427387904) : wrap64 ((j : Int) + 1) = ((j + 1 : Nat) : Int) := by unfold wrap64; omega
theorem isCut_l (a b : Int) (l0 : List S60) (l1 : List S71) (a2 a3 a4 : Int) (hl : l1.length < 4611686018427387904) : ∀ (k j : Nat), j ≤ l1.length → l1.length - j < k → stowageref08_Wires_IsCut.l0 k a b (j : Int) l0 l1 a2 a3 a4 = some (anyCut (l1.drop j) a b)
 | 0, j, _, h => by omega
 | k + 1, j, hj, h => by
  rw [stowageref08_Wires_IsCut.l0]
  by_cases hlt : j < l1.length
  ·have ih := isCut_l a b l0 l1 a2 a3 a4 hl k (j + 1) (by omega) (by omega)
   rw [if_pos (by omega), if_pos (by omega), rd71, wrapn j (by omega), ih, drop71 l1 j hlt]
   generalize l1.getD j z71 = c
   unfold anyCut
   rw [List.any_cons]
   by_cases h1 : c.f0 = a
   ·rw [if_pos h1]
    by_cases h2 : c.f1 = b
    ·rw [if_pos h2]; simp [h1, h2]
    ·rw [if_neg h2]
     by_cases h3 : c.f0 = b
     ·rw [if_pos h3]
      by_cases h4 : c.f1 = a
      ·rw [if_pos h4]; simp [h3, h4]
      ·rw [if_neg h4]; simp [h2, h4]
     ·rw [if_neg h3]; simp [h2, h3]
   ·rw [if_neg h1]
    by_cases h3 : c.f0 = b
    ·rw [if_pos h3]
     by_cases h4 : c.f1 = a
     ·rw [if_pos h4]; simp [h3, h4]
     ·rw [if_neg h4]; simp [h1, h4]
    ·rw [if_neg h3]; simp [h1, h3]
  ·rw [if_neg (by omega), List.drop_of_length_le (by omega)]
   rfl
theorem isCut_f (k : Nat) (a b : Int) (l0 : List S60) (l1 : List S71) (a2 a3 a4 : Int) (hl : l1.length < 4611686018427387904) (hk : l1.length < k) : stowageref08_Wires_IsCut.f k l0 l1 a2 a3 a4 a b = some (anyCut l1 a b) := by
 have := isCut_l a b l0 l1 a2 a3 a4 hl k 0 (by omega) (by omega)
 rw [List.drop_zero] at this
 exact this
/-- The reference's net is this one. -/
structure Rel (n : NetS) (l0 : List S60) (l1 : List S71) (a2 a3 a4 : Int) : Prop where
 l : n.l = l0
 a : n.a = a2
 b : n.b = a3
 c : n.c = a4
 cut : ∀ i j, 0 ≤ i ∧ i < 7 → 0 ≤ j ∧ j < 7 → n.isCut i j = anyCut l1 i j
section
variable {n : NetS} {l0 : List S60} {l1 : List S71} {a2 a3 a4 : Int}
theorem at_ref (h : Rel n l0 l1 a2 a3 a4) (i : Int) : stowageref08_Wires_At.f l0 l1 a2 a3 a4 i = some ((n.at_ i).1.f0, (n.at_ i).1.f1, (n.at_ i).1.f2, (n.at_ i).2) := by
 unfold stowageref08_Wires_At.f NetS.at_
 rw [h.l]
 by_cases h1 : i < 0
 ·rw [if_pos h1, if_neg (by omega)]
  rfl
 ·rw [if_neg h1]
  by_cases h2 : i ≥ (l0.length : Int)
  ·rw [if_pos h2, if_neg (by omega)]
   rfl
  ·rw [if_neg h2, if_pos (by omega), if_pos (by omega), if_pos (by omega)]
   rfl
theorem without_ref (l : List S60) (i : Nat) (hi : i < l.length) (hl : l.length ≤ 4096) : stowageref08_without.f l (i : Int) = some (l.eraseIdx i) := by
 have hM : ∀ x : Nat, x ≤ 4096 → x < 4398046511104 := fun x hx => Nat.lt_of_le_of_lt hx (by decide)
 have e1 : ([] : List S60).length + (l.take i).length < 4398046511104 := hM _ (by rw [List.length_nil, List.length_take]; omega)
 have e2 : (([] : List S60) ++ l.take i).length + (l.drop (i + 1)).length < 4398046511104 := hM _ (by rw [List.nil_append, List.length_take, List.length_drop]; omega)
 unfold stowageref08_without.f
 rw [Option.bind_some, if_pos (Int.natCast_nonneg i), if_pos (Int.ofNat_le.2 (Nat.le_of_lt hi)), Int.toNat_natCast, Option.bind_some, if_pos e1, Option.bind_some, wrapn i (by omega), if_pos (Int.natCast_nonneg _), if_pos (Int.ofNat_le.2 hi), Int.toNat_natCast, Option.bind_some, if_pos e2, List.nil_append, List.eraseIdx_eq_take_drop_succ]
theorem take_ref (h : Rel n l0 l1 a2 a3 a4) (hl : n.l.length ≤ 4096) (i : Int) : ∃ r1 r3 r4 r5, stowageref08_Wires_Take.f l0 l1 a2 a3 a4 i = some (r1, l1, r3, r4, r5, (n.take i).2.1.f0, (n.take i).2.1.f1, (n.take i).2.1.f2, (n.take i).2.2) ∧ Rel (n.take i).1 r1 l1 r3 r4 r5 := by
 unfold stowageref08_Wires_Take.f
 rw [at_ref h i, Option.bind_some]
 unfold NetS.at_ NetS.take
 by_cases hi : 0 ≤ i ∧ i < n.l.length
 ·rw [if_pos hi, if_pos hi]
  obtain ⟨k, rfl⟩ := Int.eq_ofNat_of_zero_le hi.1
  have hw := without_ref n.l k (by omega) hl
  rw [h.l] at hw
  simp only [if_true, hw, Option.bind_some]
  exact ⟨_, _, _, _, rfl, ⟨by simp [h.l], h.a, by rw [h.b], h.c, h.cut⟩⟩
 ·rw [if_neg hi, if_neg hi]
  exact ⟨_, _, _, _, rfl, h⟩
theorem drop_ref (h : Rel n l0 l1 a2 a3 a4) (hl : n.l.length ≤ 4096) (i : Int) : ∃ r1 r3 r4 r5, stowageref08_Wires_Drop.f l0 l1 a2 a3 a4 i = some (r1, l1, r3, r4, r5, (n.drop i).2) ∧ Rel (n.drop i).1 r1 l1 r3 r4 r5 := by
 unfold stowageref08_Wires_Drop.f
 rw [at_ref h i, Option.bind_some]
 unfold NetS.at_ NetS.drop
 by_cases hi : 0 ≤ i ∧ i < n.l.length
 ·rw [if_pos hi, if_pos hi]
  obtain ⟨k, rfl⟩ := Int.eq_ofNat_of_zero_le hi.1
  have hw := without_ref n.l k (by omega) hl
  rw [h.l] at hw
  simp only [if_true, hw, Option.bind_some]
  exact ⟨_, _, _, _, rfl, ⟨by simp [h.l], h.a, h.b, by rw [h.c], h.cut⟩⟩
 ·rw [if_neg hi, if_neg hi]
  exact ⟨_, _, _, _, rfl, h⟩
theorem double_ref (h : Rel n l0 l1 a2 a3 a4) (hl : n.l.length ≤ 4096) (i : Int) : ∃ r1 r3 r4 r5, stowageref08_Wires_Double.f l0 l1 a2 a3 a4 i = some (r1, l1, r3, r4, r5, (n.double i).2) ∧ Rel (n.double i).1 r1 l1 r3 r4 r5 := by
 unfold stowageref08_Wires_Double.f
 rw [at_ref h i, Option.bind_some]
 unfold NetS.at_ NetS.double
 by_cases hi : 0 ≤ i ∧ i < n.l.length
 ·rw [if_pos hi, if_pos hi]
  rw [← h.l]
  by_cases hf : 4096 ≤ n.l.length
  ·rw [if_pos hf]
   simp only [if_true]
   rw [if_pos (by omega)]
   exact ⟨_, _, _, _, rfl, ⟨rfl, h.a, h.b, h.c, h.cut⟩⟩
  ·rw [if_neg hf]
   simp only [if_true, Option.bind_some]
   rw [if_neg (by omega), if_pos (by simp; omega), if_pos (by simp; omega)]
   exact ⟨_, _, _, _, rfl, ⟨by simp, by rw [h.a], h.b, h.c, h.cut⟩⟩
 ·rw [if_neg hi, if_neg hi]
  exact ⟨_, _, _, _, rfl, h⟩
theorem send_ref (h : Rel n l0 l1 a2 a3 a4) (hl : n.l.length ≤ 4096) (k : Nat) (hk : l1.length < k) (hb : l1.length < 4611686018427387904) (p : S60) : ∃ r1 r3 r4 r5, stowageref08_Wires_Send.f k l0 l1 a2 a3 a4 p.f0 p.f1 p.f2 = some (r1, l1, r3, r4, r5, (n.send p).2) ∧ Rel (n.send p).1 r1 l1 r3 r4 r5 := by
 unfold stowageref08_Wires_Send.f NetS.send
 rw [Node.of, Option.bind_some, Node.of]
 by_cases hd : 0 ≤ p.f0 ∧ p.f0 < 7 ∧ 0 ≤ p.f1 ∧ p.f1 < 7 ∧ p.f0 ≠ p.f1
 ·rw [if_pos hd, if_pos (decide_eq_true ⟨hd.1, hd.2.1⟩), Option.bind_some, if_pos (decide_eq_true ⟨hd.2.2.1, hd.2.2.2.1⟩), if_neg hd.2.2.2.2, isCut_f k _ _ _ _ _ _ _ hb hk, Option.bind_some, ← h.cut p.f0 p.f1 ⟨hd.1, hd.2.1⟩ ⟨hd.2.2.1, hd.2.2.2.1⟩]
  by_cases hc : n.isCut p.f0 p.f1 = true
  ·rw [if_pos hc, if_pos (.inl hc)]
   exact ⟨_, _, _, _, rfl, ⟨h.l, by rw [h.a], h.b, by rw [h.c], h.cut⟩⟩
  ·rw [if_neg hc, ← h.l]
   by_cases hf : 4096 ≤ n.l.length
   ·rw [if_pos (by omega), if_pos (.inr hf)]
    exact ⟨_, _, _, _, rfl, ⟨rfl, by rw [h.a], h.b, by rw [h.c], h.cut⟩⟩
   ·rw [if_neg (by omega), if_neg (by rintro (e | e); exact hc e; exact hf e)]
    simp only [Option.bind_some]
    rw [if_pos (by simp; omega), if_pos (by simp; omega)]
    exact ⟨_, _, _, _, rfl, ⟨by simp, by rw [h.a], h.b, h.c, h.cut⟩⟩
 ·rw [if_neg hd]
  by_cases h1 : 0 ≤ p.f0 ∧ p.f0 < 7
  ·rw [if_pos (decide_eq_true h1), Option.bind_some]
   by_cases h2 : 0 ≤ p.f1 ∧ p.f1 < 7
   ·rw [if_pos (decide_eq_true h2), if_pos (by omega)]
    exact ⟨_, _, _, _, rfl, ⟨h.l, by rw [h.a], h.b, by rw [h.c], h.cut⟩⟩
   ·rw [if_neg (by simpa using h2)]
    exact ⟨_, _, _, _, rfl, ⟨h.l, by rw [h.a], h.b, by rw [h.c], h.cut⟩⟩
  ·rw [if_neg (by simpa using h1)]
   exact ⟨_, _, _, _, rfl, ⟨h.l, by rw [h.a], h.b, by rw [h.c], h.cut⟩⟩
end
theorem clear_l (node : Int) (l0 : List S60) (l1 : List S71) (a2 a3 a4 : Int) (hl : l0.length ≤ 4096) : ∀ (k j : Nat) (acc : List S60), j ≤ l0.length → acc.length ≤ j → l0.length - j < k → stowageref08_Wires_Clear.l0 k node acc (j : Int) l0 l1 a2 a3 a4 = some (acc ++ (l0.drop j).filter (fun x => !(x.f1 == node)), l1, a2, a3, wrap64 (a4 + wrap64 ((l0.length : Int) - ((acc ++ (l0.drop j).filter (fun x => !(x.f1 == node))).length : Int))), wrap64 ((l0.length : Int) - ((acc ++ (l0.drop j).filter (fun x => !(x.f1 == node))).length : Int)))
 | 0, j, acc, _, _, h => by omega
 | k + 1, j, acc, hj, ha, h => by
  rw [stowageref08_Wires_Clear.l0]
  by_cases hlt : j < l0.length
  ·rw [if_pos (Int.ofNat_lt.2 hlt), if_pos (Int.natCast_nonneg j), rd60, wrapn j (by omega), drop60 l0 j hlt]
   have hc : acc.length < 4398046511104 := Nat.lt_of_le_of_lt (Nat.le_trans ha (Nat.le_trans hj hl)) (by decide)
   generalize l0.getD j z60 = x
   by_cases h1 : x.f1 = node
   ·rw [if_pos h1, clear_l node l0 l1 a2 a3 a4 hl k (j + 1) acc (by omega) (by omega) (by omega), List.filter_cons, if_neg (by simp [h1])]
   ·rw [if_neg h1, if_pos hc, clear_l node l0 l1 a2 a3 a4 hl k (j + 1) _ (by omega) (by rw [List.length_append, List.length_singleton]; omega) (by omega), List.filter_cons, if_pos (by simp [h1]), List.append_assoc]
    rfl
  ·rw [if_neg (by omega), List.drop_of_length_le (by omega)]
   simp
theorem cut_l (l0 : List S60) (l1 : List S71) (a2 a3 a4 : Int) (hl : l0.length ≤ 4096) (hb : l1.length < 4611686018427387904) : ∀ (k j : Nat) (acc : List S60), j ≤ l0.length → acc.length ≤ j → l0.length - j + l1.length + 1 < k → stowageref08_Wires_Cut.l0 k acc (j : Int) l0 l1 a2 a3 a4 = some (acc ++ (l0.drop j).filter (fun x => !(anyCut l1 x.f0 x.f1)), l1, a2, a3, wrap64 (a4 + wrap64 ((l0.length : Int) - ((acc ++ (l0.drop j).filter (fun x => !(anyCut l1 x.f0 x.f1))).length : Int))), wrap64 ((l0.length : Int) - ((acc ++ (l0.drop j).filter (fun x => !(anyCut l1 x.f0 x.f1))).length : Int)))
 | 0, j, acc, _, _, h => by omega
 | k + 1, j, acc, hj, ha, h => by
  rw [stowageref08_Wires_Cut.l0]
  by_cases hlt : j < l0.length
  ·rw [if_pos (Int.ofNat_lt.2 hlt), if_pos (Int.natCast_nonneg j), rd60, isCut_f k _ _ _ _ _ _ _ hb (by omega), Option.bind_some, wrapn j (by omega), drop60 l0 j hlt]
   have hc : acc.length < 4398046511104 := Nat.lt_of_le_of_lt (Nat.le_trans ha (Nat.le_trans hj hl)) (by decide)
   generalize l0.getD j z60 = x
   by_cases h1 : anyCut l1 x.f0 x.f1 = true
   ·rw [if_pos h1, cut_l l0 l1 a2 a3 a4 hl hb k (j + 1) acc (by omega) (by omega) (by omega), List.filter_cons, if_neg (by simp [h1])]
   ·rw [if_neg h1, if_pos hc, cut_l l0 l1 a2 a3 a4 hl hb k (j + 1) _ (by omega) (by rw [List.length_append, List.length_singleton]; omega) (by omega), List.filter_cons, if_pos (by simpa using h1), List.append_assoc]
    rfl
  ·rw [if_neg (by omega), List.drop_of_length_le (by omega)]
   simp
section
variable {n : NetS} {l0 : List S60} {l1 : List S71} {a2 a3 a4 : Int}
theorem wrap_small (a b : Nat) (ha : a ≤ 4096) (hb : b ≤ 4096) : wrap64 ((a : Int) - (b : Int)) = (a : Int) - (b : Int) := by unfold wrap64; omega
theorem clear_ref (h : Rel n l0 l1 a2 a3 a4) (hl : n.l.length ≤ 4096) (k : Nat) (hk : n.l.length < k) (i : Int) : ∃ r1 r3 r4 r5, stowageref08_Wires_Clear.f k l0 l1 a2 a3 a4 i = some (r1, l1, r3, r4, r5, (n.l.length : Int) - ((n.l.filter fun x => !(x.f1 == i)).length : Int)) ∧ Rel (n.lose fun x => x.f1 == i) r1 l1 r3 r4 r5 := by
 have hf : (n.l.filter fun x => !(x.f1 == i)).length ≤ 4096 := Nat.le_trans (List.length_filter_le _ _) hl
 have := clear_l i l0 l1 a2 a3 a4 (by rw [← h.l]; exact hl) k 0 [] (by omega) (by simp) (by rw [← h.l]; omega)
 rw [List.drop_zero, List.nil_append, ← h.l, wrap_small _ _ hl hf] at this
 unfold stowageref08_Wires_Clear.f
 rw [← h.l]
 exact ⟨_, _, _, _, this, ⟨rfl, h.a, h.b, by show wrap64 (n.c + _) = _; rw [h.c], h.cut⟩⟩
theorem cut_ref (h : Rel n l0 l1 a2 a3 a4) (hl : n.l.length ≤ 4096) (hcl : n.cut.length = 49) (hok : ∀ p ∈ n.l, 0 ≤ p.f0 ∧ p.f0 < 7 ∧ 0 ≤ p.f1 ∧ p.f1 < 7) (k : Nat) (hk : n.l.length + l1.length + 5 < k) (hb : l1.length < 1000000) (a b : Int) : ∃ r1 r2 r3 r4 r5, stowageref08_Wires_Cut.f k l0 l1 a2 a3 a4 a b = some (r1, r2, r3, r4, r5, (n.cutN a b).2) ∧ Rel (n.cutN a b).1 r1 r2 r3 r4 r5 ∧ r2.length ≤ l1.length + 1 := by
 obtain ⟨k, rfl⟩ : ∃ q, k = q + 1 := ⟨k - 1, by omega⟩
 unfold stowageref08_Wires_Cut.f NetS.cutN
 rw [Node.of, Option.bind_some, Node.of]
 by_cases hd : 0 ≤ a ∧ a < 7 ∧ 0 ≤ b ∧ b < 7 ∧ a ≠ b
 ·rw [if_pos hd, if_pos (decide_eq_true ⟨hd.1, hd.2.1⟩), Option.bind_some, if_pos (decide_eq_true ⟨hd.2.2.1, hd.2.2.2.1⟩), stowageref08_Wires_Cut.j0, if_neg (by simpa using hd.2.2.2.2), Option.bind_some]
  have e1 : ([] : List S71).length + l1.length < 8796093022208 := Nat.lt_of_le_of_lt (show _ ≤ 1000000 by rw [List.length_nil]; omega) (by decide)
  have e2 : (([] : List S71) ++ l1).length < 8796093022208 := Nat.lt_of_le_of_lt (show _ ≤ 1000000 by rw [List.nil_append]; omega) (by decide)
  rw [if_pos e1, Option.bind_some, if_pos e2, List.nil_append]
  have hc : ∀ i j, 0 ≤ i ∧ i < 7 → 0 ≤ j ∧ j < 7 → (n.cutAB a b).isCut i j = anyCut (l1 ++ [⟨a, b⟩]) i j := fun i j hi hj => by
   rw [cutAB_isCut n hcl a b i j ⟨hd.1, hd.2.1⟩ ⟨hd.2.2.1, hd.2.2.2.1⟩ hi hj, h.cut i j hi hj]
   unfold anyCut
   rw [List.any_append]
   congr 1
   simp only [List.any_cons, List.any_nil, Bool.or_false]
   rw [Bool.eq_iff_iff]
   simp only [Bool.or_eq_true, Bool.and_eq_true, decide_eq_true_eq]
   constructor <;> (rintro (⟨x, y⟩ | ⟨x, y⟩) <;> omega)
  have hfe : (n.l.filter fun x => !(n.cutAB a b).isCut x.f0 x.f1) = n.l.filter fun x => !(anyCut (l1 ++ [⟨a, b⟩]) x.f0 x.f1) := by
   apply List.filter_congr
   intro x hx
   have := hok x hx
   rw [hc x.f0 x.f1 ⟨this.1, this.2.1⟩ ⟨this.2.2.1, this.2.2.2⟩]
  have hlen : (l1 ++ [(⟨a, b⟩ : S71)]).length = l1.length + 1 := by rw [List.length_append, List.length_singleton]
  have hf : (n.l.filter fun x => !(anyCut (l1 ++ [⟨a, b⟩]) x.f0 x.f1)).length ≤ 4096 := Nat.le_trans (List.length_filter_le _ _) hl
  have := cut_l n.l (l1 ++ [⟨a, b⟩]) a2 a3 a4 hl (by rw [hlen]; omega) k 0 [] (by omega) (by simp) (by rw [hlen]; omega)
  rw [List.drop_zero, List.nil_append, wrap_small _ _ hl hf] at this
  rw [← h.l, hfe]
  refine ⟨_, _, _, _, _, this, ⟨?_, h.a, h.b, ?_, hc⟩, by rw [hlen]; exact Nat.le_refl _⟩
  ·show (n.l.filter _) = _
   exact hfe
  ·show wrap64 (n.c + _) = _
   rw [h.c]
   show wrap64 (a4 + ((n.l.length : Int) - ((n.l.filter fun x => !(n.cutAB a b).isCut x.f0 x.f1).length : Int))) = _
   rw [hfe]
 ·rw [if_neg hd]
  have hj : stowageref08_Wires_Cut.j0 (k + 1) a b true l0 l1 a2 a3 a4 = some (l0, l1, a2, a3, a4, 0) := by
   rw [stowageref08_Wires_Cut.j0, if_pos rfl]
  by_cases h1 : 0 ≤ a ∧ a < 7
  ·rw [if_pos (decide_eq_true h1), Option.bind_some]
   by_cases h2 : 0 ≤ b ∧ b < 7
   ·rw [if_pos (decide_eq_true h2), show (a == b) = true by simp; omega, hj]
    exact ⟨_, _, _, _, _, rfl, h, by omega⟩
   ·rw [if_neg (by simpa using h2), hj]
    exact ⟨_, _, _, _, _, rfl, h, by omega⟩
  ·rw [if_neg (by simpa using h1), hj]
   exact ⟨_, _, _, _, _, rfl, h, by omega⟩
end
theorem elem60 {w : World} {base : Nat} {u1 : Value} {A : Option Addr} {c : Nat} {l0 : List S60} {l1 : List S71} (h : MR w base (.slice A l0.length c) u1 l0 l1) (i : Nat) (hi : i < l0.length) : ∃ ad, A = some ad ∧ w.cell? (ad.add (i * 3)) = some (.int .i64 (l0.getD i z60).f0) ∧ w.cell? ⟨(ad.add (i * 3)).block, (ad.add (i * 3)).off + 1, none⟩ = some (.int .i64 (l0.getD i z60).f1) ∧ w.cell? ⟨(ad.add (i * 3)).block, (ad.add (i * 3)).off + 2, none⟩ = some (.string (l0.getD i z60).f2) := by
 obtain ⟨A', c', e, _, hC⟩ := Kd.R_reads h.1
 injection e with e1 _ _
 subst e1
 have := at_T60 hC (i : Int) (by omega) (by omega)
 simpa [rd_T60] using this
theorem stowagelaw08_says.calls {w0 w : World} {g : Nat} {n : NetS} {u0 u1 : Value} {l1 : List S71} (hT : Tr w0 w g n []) (hM : MR w w0.heap.size u0 u1 n.l l1) :
  Calls Try.prog 18 #[.pointer (some ⟨g, 0, none⟩), .agg #[u0, u1, .int .i64 n.a, .int .i64 n.b, .int .i64 n.c]] w fun e w' => e = .returned (.bool true) ∧ Below w.heap.size w w' := by
 obtain ⟨A0, c0, A1, c1, rfl, rfl⟩ := hM.slices
 have T0 := Aside0.mk (hT.push (.cells #[.slice A0 n.l.length c0, .slice A1 l1.length c1, .int .i64 n.a, .int .i64 n.b, .int .i64 n.c] 41 (0, 0)))
 have M0 := Aside0.mk (hM.below (below_alloc (Below.refl w.heap.size w) (.cells #[.slice A0 n.l.length c0, .slice A1 l1.length c1, .int .i64 n.a, .int .i64 n.b, .int .i64 n.c] 41 (0, 0))))
 have B0 : Aside0 (Below w.heap.size w (w.alloc (.cells #[.slice A0 n.l.length c0, .slice A1 l1.length c1, .int .i64 n.a, .int .i64 n.b, .int .i64 n.c] 41 (0, 0)))) := ⟨below_alloc (Below.refl w.heap.size w) _⟩
 have hle := hT.le
 clear hT hM
 obtain ⟨b3, hb3⟩ : ∃ b, b = w.heap.size := ⟨_, rfl⟩
 rw [← hb3] at T0
 obtain ⟨m, hm⟩ : ∃ m, m = n.l.length := ⟨_, rfl⟩
 go_enter Try.func18, Try.ntmps18
 go_wp2_with (fail)
 rw [← hb3]
 clear hb3
 generalize w.alloc (.cells #[.slice A0 n.l.length c0, .slice A1 l1.length c1, .int .i64 n.a, .int .i64 n.b, .int .i64 n.c] 41 (0, 0)) = w1 at T0 M0 B0 ⊢
 refine (T_Counts T0.out).mono ?_
 rintro e w2 ⟨rfl, q, rfl⟩
 have T1 := Aside0.mk (T0.out.drewN q)
 have M1 := Aside0.mk (M0.out.below (pw_below_drewN (Below.refl w1.heap.size w1) q))
 have B1 : Aside0 (Below w.heap.size w (w1.drewN q)) := ⟨pw_below_drewN B0.out q⟩
 clear T0 M0 B0
 go_upto_region 2 with (fail)
 generalize w1.drewN q = w2 at T1 M1 B1 ⊢
 have d3B : w2.heap[b3]? = some (.cells #[.slice A0 n.l.length c0, .slice A1 l1.length c1, .int .i64 n.a, .int .i64 n.b, .int .i64 n.c] 41 (0, 0)) := T1.out.mem (by simp)
 have d30 := (blk_cell d3B 0).trans rfl
 have d32 := (blk_cell d3B 2).trans rfl
 have d33 := (blk_cell d3B 3).trans rfl
 have d34 := (blk_cell d3B 4).trans rfl
 clear d3B
 go_quiet (first | (go_at_call 13; exact Calls.quiet_of ((T_Len (T1.out.drewN _)).mono (fun e w' h => ⟨h.1, 0, h.2⟩))))
 have T2 := Aside0.mk (T1.out.drewN nq)
 have M2 := Aside0.mk (M1.out.below (pw_below_drewN (Below.refl w2.heap.size w2) nq))
 have B2 : Aside0 (Below w.heap.size w (w2.drewN nq)) := ⟨pw_below_drewN B1.out nq⟩
 clear T1 M1 B1 d30 d32 d33 d34
 go_upto_region 4 with (fail)
 go_wp2_with (fail)
 generalize w2.drewN nq = w3 at T2 M2 B2 ⊢
 go_loopg [8] m (fun gg s8 wr => ∃ (i : Nat), s8 = .int .i64 (i : Int) ∧ i ≤ m ∧ m - i ≤ gg ∧ Aside0 (Tr w0 wr g n [(b3, .cells #[.slice A0 n.l.length c0, .slice A1 l1.length c1, .int .i64 n.a, .int .i64 n.b, .int .i64 n.c] 41 (0, 0))]) ∧ Aside0 (MR wr w0.heap.size (.slice A0 n.l.length c0) (.slice A1 l1.length c1) n.l l1) ∧ Aside0 (Below w.heap.size w wr))
 case atStart => exact ⟨0, rfl, Nat.zero_le _, Nat.le_refl _, T2, M2, B2⟩
 case round =>
  obtain ⟨i, rfl, him, hgg, TR, MRr, BR⟩ := hrel
  clear T2 M2 B2
  have d3B : wr.heap[b3]? = some (.cells #[.slice A0 n.l.length c0, .slice A1 l1.length c1, .int .i64 n.a, .int .i64 n.b, .int .i64 n.c] 41 (0, 0)) := TR.out.mem (by simp)
  have d30 := (blk_cell d3B 0).trans rfl
  have hb3 := blk_lt d3B
  clear d3B
  by_cases hlt : i < n.l.length
  ·have hlz : (i : Int) < (n.l.length : Int) := by omega
   have hl0 : (0 : Int) ≤ (i : Int) := by omega
   obtain ⟨p, hp⟩ : ∃ p, p = n.l.getD i z60 := ⟨_, rfl⟩
   have ea : n.at_ (i : Int) = (p, true) := by
    unfold NetS.at_
    rw [if_pos ⟨hl0, hlz⟩, hp]
    rfl
   obtain ⟨ad, hA, hc0, hc1, hc2⟩ := elem60 MRr.out i hlt
   rw [← hp] at hc0 hc1 hc2
   subst hA
   have EA := Aside0.mk ea
   have HP := Aside0.mk hp
   clear ea hp
   go_wp2_with (fail)
   refine (T_At (i : Int) TR.out).mono ?_
   rw [EA.out]
   rintro e w4 ⟨rfl, hb⟩
   have T4 := Aside0.mk ((TR.out.below hb).push (.cells #[.int .i64 p.f0, .int .i64 p.f1, .string p.f2] 27 (0, 0)))
   have M4 := Aside0.mk ((MRr.out.below hb).below (below_alloc (Below.refl w4.heap.size w4) (.cells #[.int .i64 p.f0, .int .i64 p.f1, .string p.f2] 27 (0, 0))))
   have B4 : Aside0 (Below w.heap.size w (w4.alloc (.cells #[.int .i64 p.f0, .int .i64 p.f1, .string p.f2] 27 (0, 0)))) := ⟨below_alloc (below_step BR.out hb) _⟩
   clear hb hc0 hc1 hc2 d30 TR MRr BR
   go_upto_region 8 with (fail)
   generalize w4.alloc (.cells #[.int .i64 p.f0, .int .i64 p.f1, .string p.f2] 27 (0, 0)) = w5 at T4 M4 B4 ⊢
   generalize w4.heap.size = b9 at T4 ⊢
   obtain ⟨ad', hA, hc0, hc1, hc2⟩ := elem60 M4.out i hlt
   cases hA
   rw [← HP.out] at hc0 hc1 hc2
   have d3B : w5.heap[b3]? = some (.cells #[.slice (some ad) n.l.length c0, .slice A1 l1.length c1, .int .i64 n.a, .int .i64 n.b, .int .i64 n.c] 41 (0, 0)) := T4.out.mem (by simp)
   have d9B : w5.heap[b9]? = some (.cells #[.int .i64 p.f0, .int .i64 p.f1, .string p.f2] 27 (0, 0)) := T4.out.mem (by simp)
   have d30 := (blk_cell d3B 0).trans rfl
   have d90 := (blk_cell d9B 0).trans rfl
   have d91 := (blk_cell d9B 1).trans rfl
   have d92 := (blk_cell d9B 2).trans rfl
   clear d3B d9B
   go_quiet (fail)
   go_wp2
   go_roundg (m - (i + 1))
   case measure => omega
   case rel => exact ⟨i + 1, by simp, by omega, Nat.le_refl _, ⟨(T4.out.drewN nq).sub (fun q hq => by obtain rfl := List.mem_singleton.1 hq; simp)⟩, ⟨M4.out.below (pw_below_drewN (Below.refl w5.heap.size w5) nq)⟩, ⟨pw_below_drewN B4.out nq⟩⟩
  ·have hlz : ¬ (i : Int) < (n.l.length : Int) := by omega
   go_wp2
   go_ret
   exact ⟨rfl, BR.out⟩
/-- Something that happens to both: they answer alike, and stay alike. -/
theorem stowagelaw08_one.ok {w0 w : World} {g : Nat} {n : NetS} {u0 u1 : Value} {l0 : List S60} {l1 : List S71} {a2 a3 a4 kd x y i1 i2 : Int} {s : ByteArray} (hT : Tr w0 w g n []) (hM : MR w w0.heap.size u0 u1 l0 l1) (hR : Rel n l0 l1 a2 a3 a4) (hb : l1.length < 999999) :
  Calls Try.prog 17 #[.pointer (some ⟨g, 0, none⟩), .agg #[u0, u1, .int .i64 a2, .int .i64 a3, .int .i64 a4], .agg #[.int .i64 kd, .int .i64 x, .int .i64 y, .string s, .int .i64 i1, .int .i64 i2]] w fun e w' => ∃ n' v0 v1 r1 r2 r3 r4 r5, e = .returned (.tuple #[.agg #[v0, v1, .int .i64 r3, .int .i64 r4, .int .i64 r5], .bool true]) ∧ MR w' w0.heap.size v0 v1 r1 r2 ∧ Tr w0 w' g n' [] ∧ KeepO w w' ∧ Rel n' r1 r2 r3 r4 r5 ∧ r2.length ≤ l1.length + 1 := by
 have hle := hT.le
 by_cases h0 : kd = 0
 ·obtain ⟨r1, r3, r4, r5, hf, hr⟩ := send_ref hR hle (l1.length + 1) (by omega) (by omega) ⟨x, y, s⟩
  refine (stowagelaw08_one.send hT hM h0 hf).mono ?_
  rintro e w' ⟨v0, v1, rfl, hm, ht, ho⟩
  exact ⟨_, v0, v1, r1, l1, r3, r4, r5, by rw [beq_self_eq_true], hm, ht, ho, hr, by omega⟩
 by_cases h1 : kd = 1
 ·obtain ⟨r1, r3, r4, r5, hf, hr⟩ := take_ref hR hle i1
  refine (stowagelaw08_one.take hT hM h1 hf rfl).mono ?_
  rintro e w' ⟨v0, v1, rfl, hm, ht, ho⟩
  exact ⟨_, v0, v1, r1, l1, r3, r4, r5, rfl, hm, ht, ho, hr, by omega⟩
 by_cases h2 : kd = 2
 ·obtain ⟨r1, r3, r4, r5, hf, hr⟩ := drop_ref hR hle i1
  refine (stowagelaw08_one.drop hT hM h2 hf).mono ?_
  rintro e w' ⟨v0, v1, rfl, hm, ht, ho⟩
  exact ⟨_, v0, v1, r1, l1, r3, r4, r5, by rw [beq_self_eq_true], hm, ht, ho, hr, by omega⟩
 by_cases h3 : kd = 3
 ·obtain ⟨r1, r3, r4, r5, hf, hr⟩ := double_ref hR hle i1
  refine (stowagelaw08_one.double hT hM h3 hf).mono ?_
  rintro e w' ⟨v0, v1, rfl, hm, ht, ho⟩
  exact ⟨_, v0, v1, r1, l1, r3, r4, r5, by rw [beq_self_eq_true], hm, ht, ho, hr, by omega⟩
 by_cases h4 : kd = 4
 ·obtain ⟨r1, r2, r3, r4, r5, hf, hr, hl⟩ := cut_ref hR hle hT.cl hT.ok (n.l.length + l1.length + 6) (by omega) (by omega) i1 i2
  refine (stowagelaw08_one.cut hT hM h4 hf).mono ?_
  rintro e w' ⟨v0, v1, rfl, hm, ht, ho⟩
  exact ⟨_, v0, v1, r1, r2, r3, r4, r5, by rw [beq_self_eq_true], hm, ht, ho, hr, hl⟩
 by_cases h5 : kd = 5
 ·refine (stowagelaw08_one.heal hT hM h5).mono ?_
  rintro e w' ⟨v0, v1, rfl, hm, ht, ho⟩
  exact ⟨_, v0, v1, l0, [], a2, a3, a4, rfl, hm, ht, ho, ⟨hR.l, hR.a, hR.b, hR.c, fun i j _ _ => uncut _ rfl i j⟩, by simp⟩
 by_cases h6 : kd = 6
 ·obtain ⟨r1, r3, r4, r5, hf, hr⟩ := clear_ref hR hle (n.l.length + 1) (by omega) i1
  refine (stowagelaw08_one.clear hT hM h6 hf).mono ?_
  rintro e w' ⟨v0, v1, rfl, hm, ht, ho⟩
  exact ⟨_, v0, v1, r1, l1, r3, r4, r5, by rw [beq_self_eq_true], hm, ht, ho, hr, by omega⟩
 ·refine (stowagelaw08_one.at_eq hT hM (by omega) (at_ref hR i1) rfl).mono ?_
  rintro e w' ⟨v0, v1, rfl, hm, ht, ho⟩
  exact ⟨n, v0, v1, l0, l1, a2, a3, a4, rfl, hm, ht, ho, hR, by omega⟩
end Go.Proofs.Ytodkackgdchocaa.Q
