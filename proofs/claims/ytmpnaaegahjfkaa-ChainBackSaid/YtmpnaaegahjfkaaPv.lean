
/- What package chain computes of pieces and of a version, in plain Lean, and that the program and the reference answer it. -/
import Derived.Test.YtmpnaaegahjfkaaQx2
import Derived.Test.YtmpnaaegahjfkaaQx3
import Derived.Test.YtmpnaaegahjfkaaQx4
import Derived.Test.YtmpnaaegahjfkaaQx9
namespace Go.Proofs.Ytmpnaaegahjfkaa.Q
open Go.RowKit Go.Proofs.YtmpnaaegahjfkaaW.PrintWords Go.Proofs.YtmpnaaegahjfkaaW.PrintLast Go.Proofs.YtmpnaaegahjfkaaW.PrintMore
set_option linter.unusedVariables false
set_option linter.unusedSimpArgs false
theorem Ev.ite {α : Type} {c : Prop} [Decidable c] {f g : Nat → Option α} {r : α} (h1 : c → Ev f r) (h2 : ¬ c → Ev g r) : Ev (fun k => if c then f k else g k) r := by
  by_cases h : c
  · exact Ev.congr (fun k => if_pos h) (h1 h)
  · exact Ev.congr (fun k => if_neg h) (h2 h)
def isHex (b : Int) : Bool := decide (48 ≤ b ∧ b ≤ 57 ∨ 97 ≤ b ∧ b ≤ 102)
def digitsS (s : ByteArray) : Bool := (List.range' 0 s.size).all (fun j => isHex (bt s (j : Nat))) && decide (s.size = 64)
theorem all_step {p : Nat → Bool} (i d : Nat) : (List.range' i (d + 1)).all p = (p i && (List.range' (i + 1) d).all p) := by rw [List.range'_succ, List.all_cons]
theorem w1 (i : Nat) (h : i < 9223372036854775807) : wrap64 ((i : Int) + 1) = ((i + 1 : Nat) : Int) := by rw [IntWalk.wrap64_in _ (by omega)]; omega
theorem digits_go (s : ByteArray) (hs : s.size ≤ 9223372036854775807) : ∀ (d i : Nat), i + d = s.size → Ev (fun k => chain_digits.l0 k s (s.size : Int) (i : Int)) ((List.range' i d).all (fun j => isHex (bt s (j : Nat))) && decide (s.size = 64))
  | 0, i, h => by
    refine Ev.step (f := fun _ => some (decide (s.size = 64))) (fun k => ?_) ⟨0, fun _ _ => by simp⟩
    rw [chain_digits.l0, if_neg (by omega)]
    congr 1
    rw [Bool.eq_iff_iff]
    simp only [beq_iff_eq, decide_eq_true_iff]
    omega
  | d + 1, i, h => by
    refine Ev.step (f := fun k => if isHex (bt s i) = true then chain_digits.l0 k s (s.size : Int) ((i + 1 : Nat) : Int) else some false) (fun k => ?_) ?_
    · rw [chain_digits.l0, if_pos (by omega), if_pos (by omega), if_pos (by omega), w1 i (by omega)]
      generalize bt s i = b
      unfold isHex
      by_cases h1 : b < 48
      · rw [if_pos h1, if_pos (by omega), if_neg (by simp only [decide_eq_true_iff]; omega)]
      · rw [if_neg h1]
        by_cases h2 : b > 57
        · rw [if_pos h2]
          by_cases h3 : b < 97
          · rw [if_pos h3, if_neg (by simp only [decide_eq_true_iff]; omega)]
          · rw [if_neg h3]
            by_cases h4 : b > 102
            · rw [if_pos h4, if_neg (by simp only [decide_eq_true_iff]; omega)]
            · rw [if_neg h4, if_pos (by simp only [decide_eq_true_iff]; omega)]
        · rw [if_neg h2, if_pos (by simp only [decide_eq_true_iff]; omega)]
    · rw [all_step, Bool.and_assoc]
      refine Ev.ite (fun hx => ?_) (fun hx => ?_)
      · rw [hx, Bool.true_and]
        exact digits_go s hs d (i + 1) (by omega)
      · rw [Bool.not_eq_true] at hx
        rw [hx, Bool.false_and]
        exact Ev.now _
theorem digits_ev (s : ByteArray) (hs : s.size ≤ 9223372036854775807) : Ev (fun k => chain_digits.f k s) (digitsS s) := digits_go s hs s.size 0 (by omega)
/-! pieces -/
def pieceOk (id : ByteArray) (n : Int) : Bool := digitsS id && decide (1 ≤ n ∧ n ≤ 4096)
def sum72 (l : List S72) : Int := (l.map (·.f1)).sum
def piecesS (l : List S72) : Int × Int := if l.length > 512 then (0, 1) else if l.all (fun p => pieceOk p.f0 p.f1) then (sum72 l, 0) else (0, 1)
theorem rd72 (l : List S72) (i : Nat) (h : i < l.length) : rd_T72 l (i : Int) = l[i] := by
  show l.getD i z72 = _
  rw [List.getD_eq_getElem?_getD, List.getElem?_eq_getElem h]; rfl
theorem pieces_go (l : List S72) (hl : l.length ≤ 512) (hs : ∀ p ∈ l, p.f0.size ≤ 9223372036854775807) : ∀ (t : List S72) (i : Nat) (n : Int), l.drop i = t → i ≤ l.length → 0 ≤ n → n ≤ 4096 * i →
    Ev (fun k => chain_Pieces.l0 k n l (l.length : Int) (i : Int)) (if t.all (fun p => pieceOk p.f0 p.f1) then (n + sum72 t, 0) else (0, 1))
  | [], i, n, ht, hi, h0, h1 => by
    have hge : l.length ≤ i := by have := congrArg List.length ht; simp at this; omega
    refine Ev.step (f := fun _ => some (n, 0)) (fun k => ?_) ⟨0, fun _ _ => by simp [sum72]⟩
    rw [chain_Pieces.l0, if_neg (by omega)]
  | p :: t, i, n, ht, hi, h0, h1 => by
    have hlt : i < l.length := by have := congrArg List.length ht; simp at this; omega
    have e := List.drop_eq_getElem_cons hlt
    rw [ht] at e
    injection e with e1 e2
    have hp : p ∈ l := by rw [e1]; exact List.getElem_mem hlt
    refine Ev.step (f := fun k => (chain_digits.f k p.f0).bind fun t103 => if t103 = true then (if p.f1 < 1 then some (0, 1) else if p.f1 > 4096 then some (0, 1) else chain_Pieces.l0 k (wrap64 (n + p.f1)) l (l.length : Int) ((i + 1 : Nat) : Int)) else some (0, 1)) (fun k => ?_) ?_
    · rw [chain_Pieces.l0, if_pos (by omega), if_pos (by omega), if_pos (by omega), rd72 l i hlt, w1 i (by omega), ← e1]
    · refine Ev.bind (digits_ev p.f0 (hs p hp)) ?_
      have hall : (p :: t).all (fun p => pieceOk p.f0 p.f1) = (pieceOk p.f0 p.f1 && t.all (fun p => pieceOk p.f0 p.f1)) := List.all_cons
      rw [hall]
      by_cases hok : pieceOk p.f0 p.f1 = true
      · have hq := hok
        unfold pieceOk at hq
        rw [Bool.and_eq_true, decide_eq_true_iff] at hq
        refine Ev.congr (f := fun k => chain_Pieces.l0 k (n + p.f1) l (l.length : Int) ((i + 1 : Nat) : Int)) (fun k => ?_) ?_
        · rw [if_pos hq.1, if_neg (by omega), if_neg (by omega), IntWalk.wrap64_in _ (by omega)]
        · have := pieces_go l hl hs t (i + 1) (n + p.f1) e2.symm (by omega) (by omega) (by omega)
          rw [hok, Bool.true_and]
          have hs2 : n + sum72 (p :: t) = n + p.f1 + sum72 t := by unfold sum72; rw [List.map_cons, List.sum_cons]; omega
          rw [hs2]
          exact this
      · rw [Bool.not_eq_true] at hok
        rw [hok, Bool.false_and]
        unfold pieceOk at hok
        refine Ev.congr (f := fun _ => some (0, 1)) (fun k => ?_) (Ev.now _)
        by_cases hd : digitsS p.f0 = true
        · rw [if_pos hd]
          rw [hd, Bool.true_and, decide_eq_false_iff_not] at hok
          by_cases h3 : p.f1 < 1
          · rw [if_pos h3]
          · rw [if_neg h3, if_pos (by omega)]
        · rw [if_neg hd]
theorem pieces_ev (l : List S72) (hs : ∀ p ∈ l, p.f0.size ≤ 9223372036854775807) : Ev (fun k => chain_Pieces.f k l) (piecesS l) := by
  unfold piecesS
  by_cases h : l.length > 512
  · rw [if_pos h]
    exact Ev.congr (f := fun _ => some (0, 1)) (fun k => by unfold chain_Pieces.f; rw [if_pos (by omega)]) (Ev.now _)
  · rw [if_neg h]
    refine Ev.congr (f := fun k => chain_Pieces.l0 k 0 l (l.length : Int) ((0 : Nat) : Int)) (fun k => by unfold chain_Pieces.f; rw [if_neg (by omega)]; rfl) ?_
    have := pieces_go l (by omega) hs l 0 0 rfl (by omega) (by omega) (by omega)
    rw [Int.zero_add] at this
    exact this
/-! the document's Unhex, May -/
def m74 (p : S72) : S74 := ⟨p.f0, p.f1⟩
theorem piece_go (l : List S72) (hl : l.length ≤ 5864062014800) : ∀ (t : List S72) (i : Nat) (out : List S74), l.drop i = t → i ≤ l.length → out.length = i → Ev (fun k => stowagelaw13_Piece.l0 k l out (i : Int)) (out ++ t.map m74)
  | [], i, out, ht, hi, ho => by
    have hge : l.length ≤ i := by have := congrArg List.length ht; simp at this; omega
    refine Ev.step (f := fun _ => some out) (fun k => ?_) ⟨0, fun _ _ => by simp⟩
    rw [stowagelaw13_Piece.l0, if_neg (by omega)]
  | p :: t, i, out, ht, hi, ho => by
    have hlt : i < l.length := by have := congrArg List.length ht; simp at this; omega
    have e := List.drop_eq_getElem_cons hlt
    rw [ht] at e
    injection e with e1 e2
    have := piece_go l hl t (i + 1) (out ++ [m74 p]) e2.symm (by omega) (by rw [List.length_append, ho]; rfl)
    rw [List.append_assoc] at this
    refine Ev.step (fun k => ?_) this
    rw [stowagelaw13_Piece.l0, if_pos (by omega), if_pos (by omega), if_pos (by omega), rd72 l i hlt, w1 i (by omega), ← e1]
    rfl
theorem piece_ev (l : List S72) (hl : l.length ≤ 5864062014800) : Ev (fun k => stowagelaw13_Piece.f k l) (l.map m74) := piece_go l hl l 0 [] rfl (by omega) rfl
/-! a version -/
def chk (a : Int) (b : Bool) (c : Int) (d : ByteArray) (pc : Int × Int) (n : Nat) : Int :=
  if a < 1 ∨ a > 1099511627776 then 1 else if b = true then (if c = 0 ∧ d.toList = [] ∧ n = 0 then 0 else 1) else if pc.2 = 0 ∧ pc.1 = c ∧ pc.1 ≤ 1048576 ∧ digitsS d = true then 0 else 1
theorem check_ev (a : Int) (b : Bool) (c : Int) (d : ByteArray) (l : List S72) (hd : d.size ≤ 140737488355328) (hs : ∀ p ∈ l, p.f0.size ≤ 140737488355328) : Ev (fun k => chain_Check.f k a b c d l) (chk a b c d (piecesS l) l.length) := by
  unfold chk
  by_cases h1 : a < 1 ∨ a > 1099511627776
  · rw [if_pos h1]
    refine Ev.congr (f := fun k => chain_Check.j0 k true a b c d l) (fun k => ?_) (Ev.step (f := fun _ => some 1) (fun k => by rw [chain_Check.j0, if_pos rfl]) (Ev.now _))
    unfold chain_Check.f
    by_cases h2 : a < 1
    · rw [if_pos h2]
    · rw [if_neg h2, decide_eq_true (by omega)]
  · rw [if_neg h1]
    refine Ev.congr (f := fun k => chain_Check.j0 k false a b c d l) (fun k => ?_) ?_
    · unfold chain_Check.f
      rw [if_neg (by omega), decide_eq_false (by omega)]
    · cases b with
      | true =>
        rw [if_pos rfl]
        refine Ev.step (f := fun _ => some (if c = 0 ∧ d.toList = [] ∧ l.length = 0 then 0 else 1)) (fun k => ?_) (Ev.now _)
        rw [chain_Check.j0, if_neg (by simp), if_pos rfl]
        by_cases h2 : c = 0
        · by_cases h3 : d.toList = ([] : List UInt8)
          · by_cases h4 : l.length = 0
            · rw [if_pos h2, if_pos h3, if_neg (by omega), if_pos ⟨h2, h3, h4⟩]
            · rw [if_pos h2, if_pos h3, if_pos (by omega), if_neg (fun h => h4 h.2.2)]
          · rw [if_pos h2, if_neg h3, if_neg (fun h => h3 h.2.1)]
        · rw [if_neg h2, if_neg (fun h => h2 h.1)]
      | false =>
        rw [if_neg (by simp)]
        refine Ev.step (f := fun k => (chain_Pieces.f k l).bind fun bt119 => (if bt119.2 = 0 then (if bt119.1 = c then (if bt119.1 > 1048576 then (some 1) else ((chain_digits.f k d).bind fun t121 => (if t121 = true then (some 0) else (some 1)))) else (some 1)) else (some 1))) (fun k => ?_) ?_
        · rw [chain_Check.j0, if_neg (by simp), if_neg (by simp)]
        · refine Ev.bind (pieces_ev l (fun p hp => Nat.le_trans (hs p hp) (by omega))) ?_
          generalize piecesS l = pc
          by_cases h2 : pc.2 = 0
          · by_cases h3 : pc.1 = c
            · by_cases h4 : pc.1 > 1048576
              · rw [if_neg (fun h => by omega)]
                exact Ev.congr (f := fun _ => some 1) (fun k => by rw [if_pos h2, if_pos h3, if_pos h4]) (Ev.now _)
              · refine Ev.congr (f := fun k => (chain_digits.f k d).bind fun t121 => (if t121 = true then (some 0) else (some 1))) (fun k => by rw [if_pos h2, if_pos h3, if_neg h4]) (Ev.bind (digits_ev d (by omega)) ?_)
                by_cases h5 : digitsS d = true
                · rw [show (if pc.2 = 0 ∧ pc.1 = c ∧ pc.1 ≤ 1048576 ∧ digitsS d = true then (0 : Int) else 1) = 0 from if_pos ⟨h2, h3, by omega, h5⟩]
                  exact Ev.congr (f := fun _ => some 0) (fun k => by rw [if_pos h5]) (Ev.now _)
                · rw [show (if pc.2 = 0 ∧ pc.1 = c ∧ pc.1 ≤ 1048576 ∧ digitsS d = true then (0 : Int) else 1) = 1 from if_neg (fun h => h5 h.2.2.2)]
                  exact Ev.congr (f := fun _ => some 1) (fun k => by rw [if_neg h5]) (Ev.now _)
            · rw [if_neg (fun h => h3 h.2.1)]
              exact Ev.congr (f := fun _ => some 1) (fun k => by rw [if_pos h2, if_neg h3]) (Ev.now _)
          · rw [if_neg (fun h => h2 h.1)]
            exact Ev.congr (f := fun _ => some 1) (fun k => by rw [if_neg h2]) (Ev.now _)
theorem ref_ev (a : Int) (b : Bool) (c : Int) (d : ByteArray) (l : List S72) (hl : l.length ≤ 5864062014800) : Ev (fun k => stowagelaw13_Ref.f k a b c d l) (a, b, c, d, l.map m74) := by
  unfold stowagelaw13_Ref.f
  exact Ev.bind (piece_ev l hl) (Ev.now _)
end Go.Proofs.Ytmpnaaegahjfkaa.Q