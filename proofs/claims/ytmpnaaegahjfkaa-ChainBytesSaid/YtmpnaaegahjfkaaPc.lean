
/- What package chain computes of a list of versions, in plain Lean, and that the program and the reference answer it. -/
import Derived.Test.YtmpnaaegahjfkaaPv
import Derived.Test.YtmpnaaegahjfkaaQx5
import Derived.Test.YtmpnaaegahjfkaaQx6
import Derived.Test.YtmpnaaegahjfkaaQx11
import Derived.Test.YtmpnaaegahjfkaaQx12
import Derived.Test.YtmpnaaegahjfkaaQx13
import Derived.Test.YtmpnaaegahjfkaaQx14
namespace Go.Proofs.Ytmpnaaegahjfkaa.Q
open Go.RowKit Go.Proofs.YtmpnaaegahjfkaaW.PrintWords Go.Proofs.YtmpnaaegahjfkaaW.PrintLast Go.Proofs.YtmpnaaegahjfkaaW.PrintMore
set_option linter.unusedVariables false
set_option linter.unusedSimpArgs false
/-! chains -/
structure OkV (v : S24) : Prop where
 sum : v.f3.size ≤ 140737488355328
 len : v.f4.length ≤ 5864062014800
 ids : ∀ p ∈ v.f4, p.f0.size ≤ 140737488355328
def m36 (v : S24) : S36 := ⟨v.f0, v.f1, v.f2, v.f3, v.f4.map m74⟩
def chkV (v : S24) : Int := chk v.f0 v.f1 v.f2 v.f3 (piecesS v.f4) v.f4.length
def goodAt (l : List S24) (j : Nat) : Bool := (chkV (l.getD j z24) == 0) && (decide (j = 0) || decide ((l.getD j z24).f0 < (l.getD (j - 1) z24).f0))
def rightS (l : List S24) : Bool := (List.range' 0 l.length).all (goodAt l) && decide (l.length ≤ 32)
theorem rd24 (l : List S24) (i : Nat) : rd_T24 l (i : Int) = l.getD i z24 := rfl
theorem rd36 (l : List S36) (i : Nat) : rd_T36 l (i : Int) = l.getD i z36 := rfl
theorem getD_map36 (l : List S24) (i : Nat) (h : i < l.length) : (l.map m36).getD i z36 = m36 (l.getD i z24) := by
 rw [List.getD_eq_getElem?_getD, List.getD_eq_getElem?_getD, List.getElem?_map, List.getElem?_eq_getElem h]; rfl
theorem mem_getD (l : List S24) (i : Nat) (h : i < l.length) : l.getD i z24 ∈ l := by
 rw [List.getD_eq_getElem?_getD, List.getElem?_eq_getElem h]; exact List.getElem_mem h
theorem wm1 (i : Nat) (h0 : 0 < i) (h : i < 9223372036854775807) : wrap64 ((i : Int) - 1) = ((i - 1 : Nat) : Int) := by rw [IntWalk.wrap64_in _ (by omega)]; omega
theorem chkV_ev (v : S24) (h : OkV v) : Ev (fun k => chain_Check.f k v.f0 v.f1 v.f2 v.f3 v.f4) (chkV v) := check_ev _ _ _ _ _ h.sum h.ids
theorem map74_len (l : List S72) (h : l.length ≤ 5864062014800) : (l.map m74).length ≤ 9000000000000 := by rw [List.length_map]; omega
theorem map74_ids (l : List S72) (h : ∀ p ∈ l, p.f0.size ≤ 140737488355328) : ∀ p ∈ l.map m74, p.f0.size ≤ 140737488355328 := by
 intro p hp
 obtain ⟨q, hq, rfl⟩ := List.mem_map.1 hp
 exact h q hq
theorem chk36_ev (v : S24) (h : OkV v) : Ev (fun k => stowageref13_Check.f k (m36 v).f0 (m36 v).f1 (m36 v).f2 (m36 v).f3 (m36 v).f4) (chkV v) := by
 have := check74_ev v.f0 v.f1 v.f2 v.f3 (v.f4.map m74) h.sum (map74_len _ h.len) (map74_ids _ h.ids)
 rw [pieces_m, List.length_map] at this
 exact this
theorem right_go (l : List S24) (hl : l.length ≤ 2199023255552) (hok : ∀ v ∈ l, OkV v) : ∀ (d i : Nat), i + d = l.length → Ev (fun k => chain_right.l0 k l l (l.length : Int) (i : Int)) ((List.range' i d).all (goodAt l) && decide (l.length ≤ 32))
 | 0, i, h => by
  refine Ev.step (f := fun _ => some (decide ((l.length : Int) ≤ 32))) (fun k => ?_) ⟨0, fun _ _ => ?_⟩
  ·rw [chain_right.l0, if_neg (by omega)]
  ·simp only [List.range'_zero, List.all_nil, Bool.true_and]
   congr 1
   rw [Bool.eq_iff_iff, decide_eq_true_iff, decide_eq_true_iff]
   omega
 | d + 1, i, h => by
  have hi : i < l.length := by omega
  have hG := right_go l hl hok d (i + 1) (by omega)
  refine Ev.step (f := fun k => (chain_Check.f k (l.getD i z24).f0 (l.getD i z24).f1 (l.getD i z24).f2 (l.getD i z24).f3 (l.getD i z24).f4).bind fun t124 => if t124 = 0 then (if (decide (i = 0) || decide ((l.getD i z24).f0 < (l.getD (i - 1) z24).f0)) = true then chain_right.l0 k l l (l.length : Int) ((i + 1 : Nat) : Int) else some false) else some false) (fun k => ?_) ?_
  ·rw [chain_right.l0, if_pos (by omega), if_pos (by omega), if_pos (by omega), rd24, w1 i (by omega)]
   congr 1
   funext t
   by_cases ht : t = 0
   ·rw [if_pos ht, if_pos ht]
    by_cases h0 : i = 0
    ·rw [if_neg (by omega), if_pos (by simp [h0])]
    ·rw [if_pos (by omega), wm1 i (by omega) (by omega), if_pos (by omega), if_pos (by omega), rd24]
     by_cases hlt : (l.getD i z24).f0 < (l.getD (i - 1) z24).f0
     ·rw [if_neg (by omega), if_pos (by simp only [Bool.or_eq_true, decide_eq_true_iff]; exact Or.inr hlt)]
     ·rw [if_pos (by omega), if_neg (by simp only [Bool.or_eq_true, decide_eq_true_iff]; exact fun e => e.elim h0 hlt)]
   ·rw [if_neg ht, if_neg ht]
  ·refine Ev.bind (chkV_ev _ (hok _ (mem_getD l i hi))) ?_
   rw [all_step, Bool.and_assoc]
   unfold goodAt
   by_cases hc : chkV (l.getD i z24) = 0
   ·simp only [hc, if_true, beq_self_eq_true, Bool.true_and]
    refine Ev.ite (fun hx => ?_) (fun hx => ?_)
    ·rw [hx, Bool.true_and]
     exact hG
    ·rw [Bool.not_eq_true] at hx
     rw [hx, Bool.false_and]
     exact Ev.now _
   ·rw [show (chkV (l.getD i z24) == 0) = false from beq_eq_false_iff_ne.mpr hc, Bool.false_and, Bool.false_and]
    exact Ev.congr (fun k => if_neg hc) (Ev.now _)
theorem right_ev (l : List S24) (hl : l.length ≤ 2199023255552) (hok : ∀ v ∈ l, OkV v) : Ev (fun k => chain_right.f k l) (rightS l) := right_go l hl hok l.length 0 (by omega)
theorem may36_go (l : List S24) (hl : l.length ≤ 2199023255552) (hok : ∀ v ∈ l, OkV v) : ∀ (d i : Nat), i + d = l.length → Ev (fun k => stowageref13_May.l0 k (l.map m36) (i : Int)) ((List.range' i d).all (goodAt l) && decide (l.length ≤ 32))
 | 0, i, h => by
  refine Ev.step (f := fun _ => some (decide (((l.map m36).length : Int) ≤ 32))) (fun k => ?_) ⟨0, fun _ _ => ?_⟩
  ·rw [stowageref13_May.l0, if_neg (by rw [List.length_map]; omega)]
  ·simp only [List.range'_zero, List.all_nil, Bool.true_and]
   congr 1
   rw [Bool.eq_iff_iff, decide_eq_true_iff, decide_eq_true_iff, List.length_map]
   omega
 | d + 1, i, h => by
  have hi : i < l.length := by omega
  have hG := may36_go l hl hok d (i + 1) (by omega)
  have eL : ((l.map m36).length : Int) = (l.length : Int) := by rw [List.length_map]
  have ei := getD_map36 l i hi
  refine Ev.step (f := fun k => (stowageref13_Check.f k (m36 (l.getD i z24)).f0 (m36 (l.getD i z24)).f1 (m36 (l.getD i z24)).f2 (m36 (l.getD i z24)).f3 (m36 (l.getD i z24)).f4).bind fun t124 => if t124 = 0 then (if (decide (i = 0) || decide ((l.getD i z24).f0 < (l.getD (i - 1) z24).f0)) = true then stowageref13_May.l0 k (l.map m36) ((i + 1 : Nat) : Int) else some false) else some false) (fun k => ?_) ?_
  ·rw [stowageref13_May.l0, eL, if_pos (by omega), if_pos (by omega), rd36, ei, w1 i (by omega)]
   congr 1
   funext t
   by_cases ht : t = 0
   ·rw [if_pos ht, if_pos ht]
    by_cases h0 : i = 0
    ·rw [if_neg (by omega), if_pos (by simp [h0])]
    ·rw [if_pos (by omega), wm1 i (by omega) (by omega), if_pos (by omega), if_pos (by omega), rd36, getD_map36 l (i - 1) (by omega)]
     show (if (l.getD (i - 1) z24).f0 ≤ (l.getD i z24).f0 then _ else _) = _
     by_cases hlt : (l.getD i z24).f0 < (l.getD (i - 1) z24).f0
     ·rw [if_neg (by omega), if_pos (by simp only [Bool.or_eq_true, decide_eq_true_iff]; exact Or.inr hlt)]
     ·rw [if_pos (by omega), if_neg (by simp only [Bool.or_eq_true, decide_eq_true_iff]; exact fun e => e.elim h0 hlt)]
   ·rw [if_neg ht, if_neg ht]
  ·refine Ev.bind (chk36_ev _ (hok _ (mem_getD l i hi))) ?_
   rw [all_step, Bool.and_assoc]
   unfold goodAt
   by_cases hc : chkV (l.getD i z24) = 0
   ·simp only [hc, if_true, beq_self_eq_true, Bool.true_and]
    refine Ev.ite (fun hx => ?_) (fun hx => ?_)
    ·rw [hx, Bool.true_and]
     exact hG
    ·rw [Bool.not_eq_true] at hx
     rw [hx, Bool.false_and]
     exact Ev.now _
   ·rw [show (chkV (l.getD i z24) == 0) = false from beq_eq_false_iff_ne.mpr hc, Bool.false_and, Bool.false_and]
    exact Ev.congr (fun k => if_neg hc) (Ev.now _)
theorem may36_ev (l : List S24) (hl : l.length ≤ 2199023255552) (hok : ∀ v ∈ l, OkV v) : Ev (fun k => stowageref13_May.f k (l.map m36)) (rightS l) := may36_go l hl hok l.length 0 (by omega)
/-! what a chain is -/
theorem right_at {l : List S24} (h : rightS l = true) : l.length ≤ 32 ∧ (∀ j, j < l.length → chkV (l.getD j z24) = 0) ∧ ∀ j, j + 1 < l.length → (l.getD (j + 1) z24).f0 < (l.getD j z24).f0 := by
 unfold rightS at h
 rw [Bool.and_eq_true, decide_eq_true_iff, List.all_eq_true] at h
 refine ⟨h.2, fun j hj => ?_, fun j hj => ?_⟩
 ·have := h.1 j (by rw [List.mem_range'_1]; omega)
  unfold goodAt at this
  rw [Bool.and_eq_true, beq_iff_eq] at this
  exact this.1
 ·have := h.1 (j + 1) (by rw [List.mem_range'_1]; omega)
  unfold goodAt at this
  rw [Bool.and_eq_true, Bool.or_eq_true, decide_eq_true_iff, decide_eq_true_iff, Nat.add_sub_cancel] at this
  exact this.2.resolve_left (by omega)
theorem right_mem {l : List S24} (h : rightS l = true) {v : S24} (hv : v ∈ l) : chkV v = 0 := by
 obtain ⟨j, hj, rfl⟩ := List.mem_iff_getElem.1 hv
 have := (right_at h).2.1 j hj
 rw [List.getD_eq_getElem?_getD, List.getElem?_eq_getElem hj] at this
 exact this
theorem chk_len {v : S24} (h : chkV v = 0) : v.f4.length ≤ 512 := by
 unfold chkV chk at h
 by_cases h1 : v.f0 < 1 ∨ v.f0 > 1099511627776
 ·rw [if_pos h1] at h; exact absurd h (by decide)
 ·rw [if_neg h1] at h
  by_cases h2 : v.f1 = true
  ·rw [if_pos h2] at h
   by_cases h3 : v.f2 = 0 ∧ v.f3.toList = [] ∧ v.f4.length = 0
   ·omega
   ·rw [if_neg h3] at h; exact absurd h (by decide)
  ·rw [if_neg h2] at h
   by_cases h3 : (piecesS v.f4).2 = 0 ∧ (piecesS v.f4).1 = v.f2 ∧ (piecesS v.f4).1 ≤ 1048576 ∧ digitsS v.f3 = true
   ·have := h3.1
    unfold piecesS at this
    by_cases h4 : v.f4.length > 512
    ·rw [if_pos h4] at this; exact absurd this (by decide)
    ·omega
   ·rw [if_neg h3] at h; exact absurd h (by decide)
/-! Refs, Same, Alike -/
theorem refs_go (l : List S24) (hl : l.length ≤ 2199023255551) (hok : ∀ v ∈ l, OkV v) : ∀ (d i : Nat) (out : List S36), i + d = l.length → out = (l.take i).map m36 → Ev (fun k => stowagelaw13_Refs.l0 k l out (i : Int)) (l.map m36)
 | 0, i, out, h, ho => by
  refine Ev.step (f := fun _ => some out) (fun k => ?_) ⟨0, fun _ _ => ?_⟩
  ·rw [stowagelaw13_Refs.l0, if_neg (by omega)]
  ·rw [ho, List.take_of_length_le (by omega)]
 | d + 1, i, out, h, ho => by
  have hi : i < l.length := by omega
  have hG := refs_go l hl hok d (i + 1) (out ++ [m36 (l.getD i z24)]) (by omega) (by rw [ho, List.getD_eq_getElem?_getD, List.getElem?_eq_getElem hi, List.take_succ_eq_append_getElem hi, List.map_append]; rfl)
  have hV := hok _ (mem_getD l i hi)
  refine Ev.step (f := fun k => (stowagelaw13_Ref.f k (l.getD i z24).f0 (l.getD i z24).f1 (l.getD i z24).f2 (l.getD i z24).f3 (l.getD i z24).f4).bind fun bt256 => stowagelaw13_Refs.l0 k l (out ++ [(⟨bt256.1, bt256.2.1, bt256.2.2.1, bt256.2.2.2.1, bt256.2.2.2.2⟩ : S36)]) ((i + 1 : Nat) : Int)) (fun k => ?_) (Ev.bind (ref_ev _ _ _ _ _ hV.len) hG)
  rw [stowagelaw13_Refs.l0, if_pos (by omega), if_pos (by omega), rd24, w1 i (by omega)]
  congr 1
  funext t
  rw [if_pos (by rw [ho, List.length_map, List.length_take]; omega)]
theorem refs_ev (l : List S24) (hl : l.length ≤ 2199023255551) (hok : ∀ v ∈ l, OkV v) : Ev (fun k => stowagelaw13_Refs.f k l) (l.map m36) := refs_go l hl hok l.length 0 [] (by omega) rfl
theorem same_go (a : Int) (b : Bool) (c : Int) (s : ByteArray) (l : List S74) (hl : l.length ≤ 9000000000000) : ∀ (d i : Nat), i + d = l.length → Ev (fun k => stowageref13_Same.l0 k (i : Int) a b c s l a b c s l) true
 | 0, i, h => by
  refine Ev.step (f := fun _ => some true) (fun k => ?_) (Ev.now _)
  rw [stowageref13_Same.l0, if_neg (by omega)]
 | d + 1, i, h => by
  refine Ev.step (fun k => ?_) (same_go a b c s l hl d (i + 1) (by omega))
  rw [stowageref13_Same.l0, if_pos (by omega), if_pos (by omega), if_pos (by omega), if_neg (by simp), w1 i (by omega)]
theorem same_ev (a : Int) (b : Bool) (c : Int) (s : ByteArray) (l : List S74) (hl : l.length ≤ 9000000000000) : Ev (fun k => stowageref13_Same.f k a b c s l a b c s l) true := by
 refine Ev.congr (f := fun k => stowageref13_Same.j0 k false a b c s l a b c s l) (fun k => ?_) (Ev.step (f := fun k => stowageref13_Same.l0 k ((0 : Nat) : Int) a b c s l a b c s l) (fun k => ?_) (same_go a b c s l hl l.length 0 (by omega)))
 ·unfold stowageref13_Same.f
  rw [if_pos rfl, if_neg (by simp), if_pos rfl, if_pos rfl]
  congr 1
  simp
 ·rw [stowageref13_Same.j0, if_neg (by simp)]
  rfl
theorem alike_go (l : List S36) (hl : l.length ≤ 9000000000000) (hv : ∀ v ∈ l, v.f4.length ≤ 9000000000000) : ∀ (d i : Nat), i + d = l.length → Ev (fun k => stowageref13_Alike.l0 k l l (i : Int)) true
 | 0, i, h => by
  refine Ev.step (f := fun _ => some true) (fun k => ?_) (Ev.now _)
  rw [stowageref13_Alike.l0, if_neg (by omega)]
 | d + 1, i, h => by
  have hi : i < l.length := by omega
  have hm : l.getD i z36 ∈ l := by rw [List.getD_eq_getElem?_getD, List.getElem?_eq_getElem hi]; exact List.getElem_mem hi
  refine Ev.step (f := fun k => (stowageref13_Same.f k (l.getD i z36).f0 (l.getD i z36).f1 (l.getD i z36).f2 (l.getD i z36).f3 (l.getD i z36).f4 (l.getD i z36).f0 (l.getD i z36).f1 (l.getD i z36).f2 (l.getD i z36).f3 (l.getD i z36).f4).bind fun t => if t = true then stowageref13_Alike.l0 k l l ((i + 1 : Nat) : Int) else some false) (fun k => ?_) (Ev.bind (same_ev _ _ _ _ _ (hv _ hm)) (Ev.congr (fun k => if_pos rfl) (alike_go l hl hv d (i + 1) (by omega))))
  rw [stowageref13_Alike.l0, if_pos (by omega), if_pos (by omega), if_pos (by omega), rd36, w1 i (by omega)]
theorem alike_ev (l : List S36) (hl : l.length ≤ 9000000000000) (hv : ∀ v ∈ l, v.f4.length ≤ 9000000000000) : Ev (fun k => stowageref13_Alike.f k l l) true :=
 Ev.congr (f := fun k => stowageref13_Alike.l0 k l l ((0 : Nat) : Int)) (fun k => if_pos rfl) (alike_go l hl hv l.length 0 (by omega))
theorem alikeM_ev (l : List S24) (hl : l.length ≤ 9000000000000) (hok : ∀ v ∈ l, OkV v) : Ev (fun k => stowageref13_Alike.f k (l.map m36) (l.map m36)) true :=
 alike_ev _ (by rw [List.length_map]; exact hl) (fun v hv => by
  obtain ⟨q, hq, rfl⟩ := List.mem_map.1 hv
  exact map74_len _ (hok q hq).len)
end Go.Proofs.Ytmpnaaegahjfkaa.Q