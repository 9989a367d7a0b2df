
/- What package chain computes of pieces and of a version, in plain Lean, and that the program and the reference answer it. -/
import Derived.Test.YtmpnaaegahjfkaaQx2
import Derived.Test.YtmpnaaegahjfkaaQx3
import Derived.Test.YtmpnaaegahjfkaaQx4
import Derived.Test.YtmpnaaegahjfkaaQx9
namespace Go.Proofs.Ytmpnaaegahjfkaa.Q
open Go.RowKit Go.Proofs.YtmpnaaegahjfkaaW.PrintWords Go.Proofs.YtmpnaaegahjfkaaW.PrintLast Go.Proofs.YtmpnaaegahjfkaaW.PrintMore
set_option linter.unusedVariables false
set_option linter.unusedSimpArgs false
theorem Ev.ite {α : Type} {c : Prop} [Decidable c] {f g : Nat → Option α} {r : α} (h1 : c → Ev f r) (h2 : ¬ c → Ev g r) : Ev (fun k => if c then f k else g k) r := by
 by_cases h : c
 ·exact Ev.congr (fun k => if_pos h) (h1 h)
 ·exact Ev.congr (fun k => if_neg h) (h2 h)
def isHex (b : Int) : Bool := decide (48 ≤ b ∧ b ≤ 57 ∨ 97 ≤ b ∧ b ≤ 102)
def digitsS (s : ByteArray) : Bool := (List.range' 0 s.size).all (fun j => isHex (bt s (j : Nat))) && decide (s.size = 64)
theorem all_step {p : Nat → Bool} (i d : Nat) : (List.range' i (d + 1)).all p = (p i && (List.range' (i + 1) d).all p) := by rw [List.range'_succ, List.all_cons]
theorem w1 (i : Nat) (h : i < 9223372036854775807) : wrap64 ((i : Int) + 1) = ((i + 1 : Nat) : Int) := by rw [IntWalk.wrap64_in _ (by omega)]; omega
theorem digits_go (s : ByteArray) (hs : s.size ≤ 9223372036854775807) : ∀ (d i : Nat), i + d = s.size → Ev (fun k => chain_digits.l0 k s (s.size : Int) (i : Int)) ((List.range' i d).all (fun j => isHex (bt s (j : Nat))) && decide (s.size = 64))
 | 0, i, h => by
  refine Ev.step (f := fun _ => some (decide (s.size = 64))) (fun k => ?_) ⟨0, fun _ _ => by simp⟩
  rw [chain_digits.l0, if_neg (by omega)]
  congr 1
  rw [Bool.eq_iff_iff]
  simp only [beq_iff_eq, decide_eq_true_iff]
  omega
 | d + 1, i, h => by
  refine Ev.step (f := fun k => if isHex (bt s i) = true then chain_digits.l0 k s (s.size : Int) ((i + 1 : Nat) : Int) else some false) (fun k => ?_) ?_
  ·rw [chain_digits.l0, if_pos (by omega), if_pos (by omega), if_pos (by omega), w1 i (by omega)]
   generalize bt s i = b
   unfold isHex
   by_cases h1 : b < 48
   ·rw [if_pos h1, if_pos (by omega), if_neg (by simp only [decide_eq_true_iff]; omega)]
   ·rw [if_neg h1]
    by_cases h2 : b > 57
    ·rw [if_pos h2]
     by_cases h3 : b < 97
     ·rw [if_pos h3, if_neg (by simp only [decide_eq_true_iff]; omega)]
     ·rw [if_neg h3]
      by_cases h4 : b > 102
      ·rw [if_pos h4, if_neg (by simp only [decide_eq_true_iff]; omega)]
      ·rw [if_neg h4, if_pos (by simp only [decide_eq_true_iff]; omega)]
    ·rw [if_neg h2, if_pos (by simp only [decide_eq_true_iff]; omega)]
  ·rw [all_step, Bool.and_assoc]
   refine Ev.ite (fun hx => ?_) (fun hx => ?_)
   ·rw [hx, Bool.true_and]
    exact digits_go s hs d (i + 1) (by omega)
   ·rw [Bool.not_eq_true] at hx
    rw [hx, Bool.false_and]
    exact Ev.now _
theorem digits_ev (s : ByteArray) (hs : s.size ≤ 9223372036854775807) : Ev (fun k => chain_digits.f k s) (digitsS s) := digits_go s hs s.size 0 (by omega)
/-! pieces -/
def pieceOk (id : ByteArray) (n : Int) : Bool := digitsS id && decide (1 ≤ n ∧ n ≤ 4096)
def sum72 (l : List S72) : Int := (l.map (·.f1)).sum
def piecesS (l : List S72) : Int × Int := if l.length > 512 then (0, 1) else if l.all (fun p => pieceOk p.f0 p.f1) then (sum72 l, 0) else (0, 1)
theorem rd72 (l : List S72) (i : Nat) (h : i < l.length) : rd_T72 l (i : Int) = l[i] := by
 show l.getD i z72 = _
 rw [List.getD_eq_getElem?_getD, List.getElem?_eq_getElem h]; rfl
theorem pieces_go (l : List S72) (hl : l.length ≤ 512) (hs : ∀ p ∈ l, p.f0.size ≤ 9223372036854775807) : ∀ (t : List S72) (i : Nat) (n : Int), l.drop i = t → i ≤ l.length → 0 ≤ n → n ≤ 4096 * i →
  Ev (fun k => chain_Pieces.l0 k n l (l.length : Int) (i : Int)) (if t.all (fun p => pieceOk p.f0 p.f1) then (n + sum72 t, 0) else (0, 1))
 | [], i, n, ht, hi, h0, h1 => by
  have hge : l.length ≤ i := by have := congrArg List.length ht; simp at this; omega
  refine Ev.step (f := fun _ => some (n, 0)) (fun k => ?_) ⟨0, fun _ _ => by simp [sum72]⟩
  rw [chain_Pieces.l0, if_neg (by omega)]
 | p :: t, i, n, ht, hi, h0, h1 => by
  have hlt : i < l.length := by have := congrArg List.length ht; simp at this; omega
  have e := List.drop_eq_getElem_cons hlt
  rw [ht] at e
  injection e with e1 e2
  have hp : p ∈ l := by rw [e1]; exact List.getElem_mem hlt
  refine Ev.step (f := fun k => (chain_digits.f k p.f0).bind fun t103 => if t103 = true then (if p.f1 < 1 then some (0, 1) else if p.f1 > 4096 then some (0, 1) else chain_Pieces.l0 k (wrap64 (n + p.f1)) l (l.length : Int) ((i + 1 : Nat) : Int)) else some (0, 1)) (fun k => ?_) ?_
  ·rw [chain_Pieces.l0, if_pos (by omega), if_pos (by omega), if_pos (by omega), rd72 l i hlt, w1 i (by omega), ← e1]
  ·refine Ev.bind (digits_ev p.f0 (hs p hp)) ?_
   have hall : (p :: t).all (fun p => pieceOk p.f0 p.f1) = (pieceOk p.f0 p.f1 && t.all (fun p => pieceOk p.f0 p.f1)) := List.all_cons
   rw [hall]
   by_cases hok : pieceOk p.f0 p.f1 = true
   ·have hq := hok
    unfold pieceOk at hq
    rw [Bool.and_eq_true, decide_eq_true_iff] at hq
    refine Ev.congr (f := fun k => chain_Pieces.l0 k (n + p.f1) l (l.length : Int) ((i + 1 : Nat) : Int)) (fun k => ?_) ?_
    ·rw [if_pos hq.1, if_neg (by omega), if_neg (by omega), IntWalk.wrap64_in _ (by omega)]
    ·have := pieces_go l hl hs t (i + 1) (n + p.f1) e2.symm (by omega) (by omega) (by omega)
     rw [hok, Bool.true_and]
     have hs2 : n + sum72 (p :: t) = n + p.f1 + sum72 t := by unfold sum72; rw [List.map_cons, List.sum_cons]; omega
     rw [hs2]
     exact this
   ·rw [Bool.not_eq_true] at hok
    rw [hok, Bool.false_and]
    unfold pieceOk at hok
    refine Ev.congr (f := fun _ => some (0, 1)) (fun k => ?_) (Ev.now _)
    by_cases hd : digitsS p.f0 = true
    ·rw [if_pos hd]
     rw [hd, Bool.true_and, decide_eq_false_iff_not] at hok
     by_cases h3 : p.f1 < 1
     ·rw [if_pos h3]
     ·rw [if_neg h3, if_pos (by omega)]
    ·rw [if_neg hd]
theorem pieces_ev (l : List S72) (hs : ∀ p ∈ l, p.f0.size ≤ 9223372036854775807) : Ev (fun k => chain_Pieces.f k l) (piecesS l) := by
 unfold piecesS
 by_cases h : l.length > 512
 ·rw [if_pos h]
  exact Ev.congr (f := fun _ => some (0, 1)) (fun k => by unfold chain_Pieces.f; rw [if_pos (by omega)]) (Ev.now _)
 ·rw [if_neg h]
  refine Ev.congr (f := fun k => chain_Pieces.l0 k 0 l (l.length : Int) ((0 : Nat) : Int)) (fun k => by unfold chain_Pieces.f; rw [if_neg (by omega)]; rfl) ?_
  have := pieces_go l (by omega) hs l 0 0 rfl (by omega) (by omega) (by omega)
  rw [Int.zero_add] at this
  exact this
/-! the document's Unhex, May -/
theorem bt_lim (s : ByteArray) (i : Int) : 0 ≤ bt s i ∧ bt s i < 256 := by
 unfold bt
 split
 ·rename_i h
  have := UInt8.toNat_lt (s[i.toNat]'h)
  omega
 ·omega
theorem tm2 (i : Nat) : Int.tmod (i : Int) 2 = ((i % 2 : Nat) : Int) := by rw [Int.tmod_eq_emod_of_nonneg (by omega)]; omega
theorem unhex_go (s : ByteArray) (hs : s.size ≤ 140737488355328) : ∀ (d i : Nat) (b : List Int) (n : Int), i + d = s.size → b.length ≤ i → 0 ≤ n → n < 256 → (i = 0 → b.length = 0) →
  ∃ r : ByteArray × Int, Ev (fun k => stowageref03_Unhex.l0 k s b n (i : Int)) r ∧ (r.2 = 0 ↔ (List.range' i d).all (fun j => isHex (bt s (j : Nat))) = true)
 | 0, i, b, n, h, hb, h0, h1, hz => by
  refine ⟨(strOfNums b, 0), Ev.step (f := fun _ => some (strOfNums b, 0)) (fun k => ?_) (Ev.now _), by simp⟩
  rw [stowageref03_Unhex.l0, if_neg (by omega)]
 | d + 1, i, b, n, h, hb, h0, h1, hz => by
  have hB := bt_lim s i
  have hil : (i : Int) < (s.size : Int) := by omega
  -- the digit's value
  have key : ∀ v : Int, (v < 0 ∨ 0 ≤ v ∧ v ≤ 15) → ((0 ≤ v) ↔ isHex (bt s i) = true) → ∃ r : ByteArray × Int, Ev (fun k => stowageref03_Unhex.j4 k s b n (i : Int) v) r ∧ (r.2 = 0 ↔ (List.range' i (d + 1)).all (fun j => isHex (bt s (j : Nat))) = true) := by
   intro v hv hx
   rw [all_step]
   by_cases hneg : v < 0
   ·refine ⟨((⟨#[]⟩ : ByteArray), 3), Ev.step (f := fun _ => some ((⟨#[]⟩ : ByteArray), 3)) (fun k => ?_) (Ev.now _), ?_⟩
    ·rw [stowageref03_Unhex.j4, if_pos hneg]
    ·have : isHex (bt s i) = false := by rw [← Bool.not_eq_true]; intro e; have := hx.2 e; omega
     rw [this]; simp
   ·have hx2 : isHex (bt s i) = true := hx.1 (by omega)
    rw [hx2, Bool.true_and]
    have hm : Int.tmod n 16 = n % 16 := Int.tmod_eq_emod_of_nonneg h0
    have e1 : wrap64 (Int.tmod n 16 * 16) = n % 16 * 16 := by rw [hm, IntWalk.wrap64_in _ (by omega)]
    have e2 : wrap64 (wrap64 (Int.tmod n 16 * 16) + v) = n % 16 * 16 + v := by rw [e1, IntWalk.wrap64_in _ (by omega)]
    by_cases hodd : i % 2 = 1
    ·obtain ⟨r, hr, hr2⟩ := unhex_go s hs d (i + 1) (b ++ [(n % 16 * 16 + v) % 256]) (n % 16 * 16 + v) (by omega) (by rw [List.length_append, List.length_singleton]; omega) (by omega) (by omega) (fun h => by omega)
     refine ⟨r, Ev.step (fun k => ?_) hr, hr2⟩
     rw [stowageref03_Unhex.j4, if_neg hneg, tm2, if_pos (by omega), if_pos (by omega), e2, w1 i (by omega)]
    ·obtain ⟨r, hr, hr2⟩ := unhex_go s hs d (i + 1) b (n % 16 * 16 + v) (by omega) (by omega) (by omega) (by omega) (fun h => by omega)
     refine ⟨r, Ev.step (fun k => ?_) hr, hr2⟩
     rw [stowageref03_Unhex.j4, if_neg hneg, tm2, if_neg (by omega), e2, w1 i (by omega)]
  have key2 : ∀ v : Int, (v < 0 ∨ 0 ≤ v ∧ v ≤ 15) → ((0 ≤ v) ↔ (48 ≤ bt s i ∧ bt s i ≤ 57)) → ∃ r : ByteArray × Int, Ev (fun k => stowageref03_Unhex.j2 k s b n (i : Int) v) r ∧ (r.2 = 0 ↔ (List.range' i (d + 1)).all (fun j => isHex (bt s (j : Nat))) = true) := by
   intro v hv hx
   by_cases hge : bt s i ≥ 97 ∧ bt s i ≤ 102
   ·obtain ⟨r, hr, hr2⟩ := key (bt s i - 87) (by omega) (by unfold isHex; rw [decide_eq_true_iff]; omega)
    refine ⟨r, Ev.step (f := fun k => stowageref03_Unhex.j3 k s b n (i : Int) v true) (fun k => ?_) (Ev.step (fun k => ?_) hr), hr2⟩
    ·rw [stowageref03_Unhex.j2, if_pos (by omega), if_pos hil, if_pos hge.1, decide_eq_true hge.2]
    ·rw [stowageref03_Unhex.j3, if_pos rfl, if_pos (by omega), if_pos hil, IntWalk.wrap64_in (bt s i) (by omega), IntWalk.wrap64_in _ (by omega)]
   ·obtain ⟨r, hr, hr2⟩ := key v hv (by unfold isHex; rw [decide_eq_true_iff]; omega)
    refine ⟨r, Ev.step (f := fun k => stowageref03_Unhex.j3 k s b n (i : Int) v false) (fun k => ?_) (Ev.step (fun k => ?_) hr), hr2⟩
    ·rw [stowageref03_Unhex.j2, if_pos (by omega), if_pos hil]
     by_cases hg : bt s i ≥ 97
     ·rw [if_pos hg, decide_eq_false (by omega)]
     ·rw [if_neg hg]
    ·rw [stowageref03_Unhex.j3, if_neg (by simp)]
  by_cases hd : 48 ≤ bt s i ∧ bt s i ≤ 57
  ·obtain ⟨r, hr, hr2⟩ := key2 (bt s i - 48) (by omega) (by omega)
   refine ⟨r, Ev.step (f := fun k => stowageref03_Unhex.j1 k s b n (i : Int) (-1) true) (fun k => ?_) (Ev.step (fun k => ?_) hr), hr2⟩
   ·rw [stowageref03_Unhex.l0, if_pos hil, if_pos (by omega), if_pos (by omega), decide_eq_true hd.2]
   ·rw [stowageref03_Unhex.j1, if_pos rfl, if_pos (by omega), if_pos hil, IntWalk.wrap64_in (bt s i) (by omega), IntWalk.wrap64_in _ (by omega)]
  ·obtain ⟨r, hr, hr2⟩ := key2 (-1) (by omega) (by omega)
   refine ⟨r, Ev.step (f := fun k => stowageref03_Unhex.j1 k s b n (i : Int) (-1) false) (fun k => ?_) (Ev.step (fun k => ?_) hr), hr2⟩
   ·rw [stowageref03_Unhex.l0, if_pos hil, if_pos (by omega)]
    by_cases hg : bt s i ≥ 48
    ·rw [if_pos hg, decide_eq_false (by omega)]
    ·rw [if_neg hg]
   ·rw [stowageref03_Unhex.j1, if_neg (by simp)]
theorem may_ev (s : ByteArray) (hs : s.size ≤ 140737488355328) : Ev (fun k => stowageref06_May.f k s) (digitsS s) := by
 unfold stowageref06_May.f stowageref03_Unhex.f digitsS
 by_cases he : ((s.size : Int) % 2) = 0
 ·obtain ⟨r, hr, hr2⟩ := unhex_go s hs s.size 0 [] 0 (by omega) (by simp) (by omega) (by omega) (fun _ => rfl)
  refine Ev.bind (Ev.congr (f := fun k => stowageref03_Unhex.l0 k s [] 0 ((0 : Nat) : Int)) (fun k => if_pos he) hr) ?_
  refine Ev.congr (f := fun _ => some ((List.range' 0 s.size).all (fun j => isHex (bt s (j : Nat))) && decide (s.size = 64))) (fun k => ?_) (Ev.now _)
  by_cases h0 : r.2 = 0
  ·rw [if_pos h0, hr2.1 h0, Bool.true_and]
   congr 1
   rw [Bool.eq_iff_iff]
   simp only [beq_iff_eq, decide_eq_true_iff]
   omega
  ·rw [if_neg h0]
   have : (List.range' 0 s.size).all (fun j => isHex (bt s (j : Nat))) = false := by rw [← Bool.not_eq_true]; intro e; exact h0 (hr2.2 e)
   rw [this, Bool.false_and]
 ·refine Ev.bind (a := ((⟨#[]⟩ : ByteArray), 3)) (Ev.congr (f := fun _ => some ((⟨#[]⟩ : ByteArray), 3)) (fun k => if_neg he) (Ev.now _)) ?_
  refine Ev.congr (f := fun _ => some false) (fun k => if_neg (by simp)) ?_
  have : decide (s.size = 64) = false := by rw [decide_eq_false_iff_not]; omega
  rw [this, Bool.and_false]
  exact Ev.now _
def sum74 (l : List S74) : Int := (l.map (·.f1)).sum
def pieces74 (l : List S74) : Int × Int := if l.length > 512 then (0, 1) else if l.all (fun p => pieceOk p.f0 p.f1) then (sum74 l, 0) else (0, 1)
theorem rd74 (l : List S74) (i : Nat) (h : i < l.length) : rd_T74 l (i : Int) = l[i] := by
 show l.getD i z74 = _
 rw [List.getD_eq_getElem?_getD, List.getElem?_eq_getElem h]; rfl
theorem pieces74_go (l : List S74) (hl : l.length ≤ 9000000000000) (hs : ∀ p ∈ l, p.f0.size ≤ 140737488355328) : ∀ (t : List S74) (i : Nat) (n : Int), l.drop i = t → i ≤ l.length → (l.length ≤ 512 → 0 ≤ n ∧ n ≤ 4096 * i) →
  Ev (fun k => stowageref13_Pieces.l0 k l n (i : Int)) (if t.all (fun p => pieceOk p.f0 p.f1) then (if l.length > 512 then (0, 1) else (n + sum74 t, 0)) else (0, 1))
 | [], i, n, ht, hi, hn => by
  have hge : l.length ≤ i := by have := congrArg List.length ht; simp at this; omega
  refine Ev.step (f := fun _ => if (l.length : Int) > 512 then some (0, 1) else some (n, 0)) (fun k => ?_) ⟨0, fun _ _ => ?_⟩
  ·rw [stowageref13_Pieces.l0, if_neg (by omega)]
  ·by_cases h : l.length > 512
   ·rw [if_pos (by omega)]; simp [h]
   ·rw [if_neg (by omega)]; simp [h, sum74]
 | p :: t, i, n, ht, hi, hn => by
  have hlt : i < l.length := by have := congrArg List.length ht; simp at this; omega
  have e := List.drop_eq_getElem_cons hlt
  rw [ht] at e
  injection e with e1 e2
  have hp : p ∈ l := by rw [e1]; exact List.getElem_mem hlt
  refine Ev.step (f := fun k => (stowageref06_May.f k p.f0).bind fun t103 => if t103 = true then (if p.f1 < 1 then some (0, 1) else if p.f1 > 4096 then some (0, 1) else stowageref13_Pieces.l0 k l (wrap64 (n + p.f1)) ((i + 1 : Nat) : Int)) else some (0, 1)) (fun k => ?_) ?_
  ·rw [stowageref13_Pieces.l0, if_pos (by omega), if_pos (by omega), rd74 l i hlt, w1 i (by omega), ← e1]
  ·refine Ev.bind (may_ev p.f0 (hs p hp)) ?_
   have hall : (p :: t).all (fun p => pieceOk p.f0 p.f1) = (pieceOk p.f0 p.f1 && t.all (fun p => pieceOk p.f0 p.f1)) := List.all_cons
   rw [hall]
   by_cases hok : pieceOk p.f0 p.f1 = true
   ·have hq := hok
    unfold pieceOk at hq
    rw [Bool.and_eq_true, decide_eq_true_iff] at hq
    refine Ev.congr (f := fun k => stowageref13_Pieces.l0 k l (wrap64 (n + p.f1)) ((i + 1 : Nat) : Int)) (fun k => ?_) ?_
    ·rw [if_pos hq.1, if_neg (by omega), if_neg (by omega)]
    ·have hw : l.length ≤ 512 → wrap64 (n + p.f1) = n + p.f1 := fun h => by have := hn h; exact IntWalk.wrap64_in _ (by omega)
     have := pieces74_go l hl hs t (i + 1) (wrap64 (n + p.f1)) e2.symm (by omega) (fun h => by rw [hw h]; have := hn h; omega)
     rw [hok, Bool.true_and]
     have hs2 : sum74 (p :: t) = p.f1 + sum74 t := by unfold sum74; rw [List.map_cons, List.sum_cons]
     rw [hs2]
     by_cases h : l.length > 512
     ·simp only [if_pos h] at this ⊢; exact this
     ·simp only [if_neg h, hw (by omega), Int.add_assoc] at this ⊢; exact this
   ·rw [Bool.not_eq_true] at hok
    rw [hok, Bool.false_and]
    unfold pieceOk at hok
    refine Ev.congr (f := fun _ => some (0, 1)) (fun k => ?_) (Ev.now _)
    by_cases hd : digitsS p.f0 = true
    ·rw [if_pos hd]
     rw [hd, Bool.true_and, decide_eq_false_iff_not] at hok
     by_cases h3 : p.f1 < 1
     ·rw [if_pos h3]
     ·rw [if_neg h3, if_pos (by omega)]
    ·rw [if_neg hd]
theorem pieces74_ev (l : List S74) (hl : l.length ≤ 9000000000000) (hs : ∀ p ∈ l, p.f0.size ≤ 140737488355328) : Ev (fun k => stowageref13_Pieces.f k l) (pieces74 l) := by
 have := pieces74_go l hl hs l 0 0 rfl (by omega) (fun _ => by omega)
 unfold pieces74 stowageref13_Pieces.f
 rw [Int.zero_add] at this
 by_cases h : l.length > 512
 ·rw [if_pos h]
  simp only [if_pos h, ite_self] at this
  exact this
 ·simp only [if_neg h] at this ⊢
  exact this
def m74 (p : S72) : S74 := ⟨p.f0, p.f1⟩
theorem pieces_m (l : List S72) : pieces74 (l.map m74) = piecesS l := by
 unfold pieces74 piecesS sum74 sum72
 rw [List.length_map, List.all_map, List.map_map]
 rfl
theorem piece_go (l : List S72) (hl : l.length ≤ 5864062014800) : ∀ (t : List S72) (i : Nat) (out : List S74), l.drop i = t → i ≤ l.length → out.length = i → Ev (fun k => stowagelaw13_Piece.l0 k l out (i : Int)) (out ++ t.map m74)
 | [], i, out, ht, hi, ho => by
  have hge : l.length ≤ i := by have := congrArg List.length ht; simp at this; omega
  refine Ev.step (f := fun _ => some out) (fun k => ?_) ⟨0, fun _ _ => by simp⟩
  rw [stowagelaw13_Piece.l0, if_neg (by omega)]
 | p :: t, i, out, ht, hi, ho => by
  have hlt : i < l.length := by have := congrArg List.length ht; simp at this; omega
  have e := List.drop_eq_getElem_cons hlt
  rw [ht] at e
  injection e with e1 e2
  have := piece_go l hl t (i + 1) (out ++ [m74 p]) e2.symm (by omega) (by rw [List.length_append, ho]; rfl)
  rw [List.append_assoc] at this
  refine Ev.step (fun k => ?_) this
  rw [stowagelaw13_Piece.l0, if_pos (by omega), if_pos (by omega), if_pos (by omega), rd72 l i hlt, w1 i (by omega), ← e1]
  rfl
theorem piece_ev (l : List S72) (hl : l.length ≤ 5864062014800) : Ev (fun k => stowagelaw13_Piece.f k l) (l.map m74) := piece_go l hl l 0 [] rfl (by omega) rfl
/-! a version -/
def chk (a : Int) (b : Bool) (c : Int) (d : ByteArray) (pc : Int × Int) (n : Nat) : Int :=
 if a < 1 ∨ a > 1099511627776 then 1 else if b = true then (if c = 0 ∧ d.toList = [] ∧ n = 0 then 0 else 1) else if pc.2 = 0 ∧ pc.1 = c ∧ pc.1 ≤ 1048576 ∧ digitsS d = true then 0 else 1
theorem check_ev (a : Int) (b : Bool) (c : Int) (d : ByteArray) (l : List S72) (hd : d.size ≤ 140737488355328) (hs : ∀ p ∈ l, p.f0.size ≤ 140737488355328) : Ev (fun k => chain_Check.f k a b c d l) (chk a b c d (piecesS l) l.length) := by
 unfold chk
 by_cases h1 : a < 1 ∨ a > 1099511627776
 ·rw [if_pos h1]
  refine Ev.congr (f := fun k => chain_Check.j0 k true a b c d l) (fun k => ?_) (Ev.step (f := fun _ => some 1) (fun k => by rw [chain_Check.j0, if_pos rfl]) (Ev.now _))
  unfold chain_Check.f
  by_cases h2 : a < 1
  ·rw [if_pos h2]
  ·rw [if_neg h2, decide_eq_true (by omega)]
 ·rw [if_neg h1]
  refine Ev.congr (f := fun k => chain_Check.j0 k false a b c d l) (fun k => ?_) ?_
  ·unfold chain_Check.f
   rw [if_neg (by omega), decide_eq_false (by omega)]
  ·cases b with
   | true =>
    rw [if_pos rfl]
    refine Ev.step (f := fun _ => some (if c = 0 ∧ d.toList = [] ∧ l.length = 0 then 0 else 1)) (fun k => ?_) (Ev.now _)
    rw [chain_Check.j0, if_neg (by simp), if_pos rfl]
    by_cases h2 : c = 0
    ·by_cases h3 : d.toList = ([] : List UInt8)
     ·by_cases h4 : l.length = 0
      ·rw [if_pos h2, if_pos h3, if_neg (by omega), if_pos ⟨h2, h3, h4⟩]
      ·rw [if_pos h2, if_pos h3, if_pos (by omega), if_neg (fun h => h4 h.2.2)]
     ·rw [if_pos h2, if_neg h3, if_neg (fun h => h3 h.2.1)]
    ·rw [if_neg h2, if_neg (fun h => h2 h.1)]
   | false =>
    rw [if_neg (by simp)]
    refine Ev.step (f := fun k => (chain_Pieces.f k l).bind fun bt119 => (if bt119.2 = 0 then (if bt119.1 = c then (if bt119.1 > 1048576 then (some 1) else ((chain_digits.f k d).bind fun t121 => (if t121 = true then (some 0) else (some 1)))) else (some 1)) else (some 1))) (fun k => ?_) ?_
    ·rw [chain_Check.j0, if_neg (by simp), if_neg (by simp)]
    ·refine Ev.bind (pieces_ev l (fun p hp => Nat.le_trans (hs p hp) (by omega))) ?_
     generalize piecesS l = pc
     by_cases h2 : pc.2 = 0
     ·by_cases h3 : pc.1 = c
      ·by_cases h4 : pc.1 > 1048576
       ·rw [if_neg (fun h => by omega)]
        exact Ev.congr (f := fun _ => some 1) (fun k => by rw [if_pos h2, if_pos h3, if_pos h4]) (Ev.now _)
       ·refine Ev.congr (f := fun k => (chain_digits.f k d).bind fun t121 => (if t121 = true then (some 0) else (some 1))) (fun k => by rw [if_pos h2, if_pos h3, if_neg h4]) (Ev.bind (digits_ev d (by omega)) ?_)
        by_cases h5 : digitsS d = true
        ·rw [show (if pc.2 = 0 ∧ pc.1 = c ∧ pc.1 ≤ 1048576 ∧ digitsS d = true then (0 : Int) else 1) = 0 from if_pos ⟨h2, h3, by omega, h5⟩]
         exact Ev.congr (f := fun _ => some 0) (fun k => by rw [if_pos h5]) (Ev.now _)
        ·rw [show (if pc.2 = 0 ∧ pc.1 = c ∧ pc.1 ≤ 1048576 ∧ digitsS d = true then (0 : Int) else 1) = 1 from if_neg (fun h => h5 h.2.2.2)]
         exact Ev.congr (f := fun _ => some 1) (fun k => by rw [if_neg h5]) (Ev.now _)
      ·rw [if_neg (fun h => h3 h.2.1)]
       exact Ev.congr (f := fun _ => some 1) (fun k => by rw [if_pos h2, if_neg h3]) (Ev.now _)
     ·rw [if_neg (fun h => h2 h.1)]
      exact Ev.congr (f := fun _ => some 1) (fun k => by rw [if_neg h2]) (Ev.now _)
theorem check74_ev (a : Int) (b : Bool) (c : Int) (d : ByteArray) (l : List S74) (hd : d.size ≤ 140737488355328) (hl : l.length ≤ 9000000000000) (hs : ∀ p ∈ l, p.f0.size ≤ 140737488355328) : Ev (fun k => stowageref13_Check.f k a b c d l) (chk a b c d (pieces74 l) l.length) := by
 unfold chk
 by_cases h1 : a < 1 ∨ a > 1099511627776
 ·rw [if_pos h1]
  refine Ev.congr (f := fun k => stowageref13_Check.j0 k true a b c d l) (fun k => ?_) (Ev.step (f := fun _ => some 1) (fun k => by rw [stowageref13_Check.j0, if_pos rfl]) (Ev.now _))
  unfold stowageref13_Check.f
  by_cases h2 : a < 1
  ·rw [if_pos h2]
  ·rw [if_neg h2, decide_eq_true (by omega)]
 ·rw [if_neg h1]
  refine Ev.congr (f := fun k => stowageref13_Check.j0 k false a b c d l) (fun k => ?_) ?_
  ·unfold stowageref13_Check.f
   rw [if_neg (by omega), decide_eq_false (by omega)]
  ·have hP := pieces74_ev l hl hs
   cases b with
   | true =>
    rw [if_pos rfl]
    have hj : ∀ x : Bool, ((x = true) ↔ ¬ (c = 0 ∧ d.toList = [] ∧ l.length = 0)) → Ev (fun k => stowageref13_Check.j1 k (pieces74 l).1 (pieces74 l).2 x a true c d l) (if c = 0 ∧ d.toList = [] ∧ l.length = 0 then 0 else 1) := by
     intro x hx
     cases x with
     | true =>
      rw [if_neg (hx.1 rfl)]
      exact Ev.step (f := fun _ => some 1) (fun k => by rw [stowageref13_Check.j1, if_pos rfl]) (Ev.now _)
     | false =>
      have hq : c = 0 ∧ d.toList = [] ∧ l.length = 0 := by
       by_cases h : c = 0 ∧ d.toList = [] ∧ l.length = 0
       ·exact h
       ·exact absurd (hx.2 h) (by simp)
      rw [if_pos hq]
      exact Ev.step (f := fun _ => some 0) (fun k => by rw [stowageref13_Check.j1, if_neg (by simp), if_pos rfl]) (Ev.now _)
    refine Ev.step (f := fun k => (stowageref13_Pieces.f k l).bind fun bt215 => if c = 0 then (if d.toList = ([] : List UInt8) then stowageref13_Check.j1 k bt215.1 bt215.2 ((l.length : Int) != 0) a true c d l else stowageref13_Check.j1 k bt215.1 bt215.2 true a true c d l) else stowageref13_Check.j1 k bt215.1 bt215.2 true a true c d l) (fun k => ?_) (Ev.bind hP ?_)
    ·rw [stowageref13_Check.j0, if_neg (by simp)]
     rfl
    ·refine Ev.ite (fun h2 => Ev.ite (fun h3 => hj _ ?_) (fun h3 => hj _ ?_)) (fun h2 => hj _ ?_)
     ·simp only [bne_iff_ne]
      exact ⟨fun h e => h (by have := e.2.2; omega), fun h e => h ⟨h2, h3, by omega⟩⟩
     ·exact ⟨fun _ e => h3 e.2.1, fun _ => rfl⟩
     ·exact ⟨fun _ e => h2 e.1, fun _ => rfl⟩
   | false =>
    rw [if_neg (by simp)]
    refine Ev.step (f := fun k => (stowageref13_Pieces.f k l).bind fun bt215 => stowageref13_Check.j1 k bt215.1 bt215.2 false a false c d l) (fun k => ?_) (Ev.bind hP ?_)
    ·rw [stowageref13_Check.j0, if_neg (by simp)]
     rfl
    ·generalize pieces74 l = pc
     refine Ev.step (f := fun k => (if pc.2 = 0 then (if pc.1 = c then (if pc.1 > 1048576 then (some 1) else ((stowageref06_May.f k d).bind fun t217 => (if t217 = true then (some 0) else (some 1)))) else (some 1)) else (some 1))) (fun k => ?_) ?_
     ·rw [stowageref13_Check.j1, if_neg (by simp), if_neg (by simp)]
     ·by_cases h2 : pc.2 = 0
      ·by_cases h3 : pc.1 = c
       ·by_cases h4 : pc.1 > 1048576
        ·rw [if_neg (fun h => by omega)]
         exact Ev.congr (f := fun _ => some 1) (fun k => by rw [if_pos h2, if_pos h3, if_pos h4]) (Ev.now _)
        ·refine Ev.congr (f := fun k => (stowageref06_May.f k d).bind fun t121 => (if t121 = true then (some 0) else (some 1))) (fun k => by rw [if_pos h2, if_pos h3, if_neg h4]) (Ev.bind (may_ev d (by omega)) ?_)
         by_cases h5 : digitsS d = true
         ·rw [show (if pc.2 = 0 ∧ pc.1 = c ∧ pc.1 ≤ 1048576 ∧ digitsS d = true then (0 : Int) else 1) = 0 from if_pos ⟨h2, h3, by omega, h5⟩]
          exact Ev.congr (f := fun _ => some 0) (fun k => by rw [if_pos h5]) (Ev.now _)
         ·rw [show (if pc.2 = 0 ∧ pc.1 = c ∧ pc.1 ≤ 1048576 ∧ digitsS d = true then (0 : Int) else 1) = 1 from if_neg (fun h => h5 h.2.2.2)]
          exact Ev.congr (f := fun _ => some 1) (fun k => by rw [if_neg h5]) (Ev.now _)
       ·rw [if_neg (fun h => h3 h.2.1)]
        exact Ev.congr (f := fun _ => some 1) (fun k => by rw [if_pos h2, if_neg h3]) (Ev.now _)
      ·rw [if_neg (fun h => h2 h.1)]
       exact Ev.congr (f := fun _ => some 1) (fun k => by rw [if_neg h2]) (Ev.now _)

theorem ref_ev (a : Int) (b : Bool) (c : Int) (d : ByteArray) (l : List S72) (hl : l.length ≤ 5864062014800) : Ev (fun k => stowagelaw13_Ref.f k a b c d l) (a, b, c, d, l.map m74) := by
 unfold stowagelaw13_Ref.f
 exact Ev.bind (piece_ev l hl) (Ev.now _)
end Go.Proofs.Ytmpnaaegahjfkaa.Q