/- The document's answer: which snapshots may be. -/
import Derived.Test.YthjfofgcikfepaaShP
import Derived.Test.YthjfofgcikfepaaRk
namespace Go.Proofs.Ythjfofgcikfepaa.Q
open Go.Maps Go.WideShapes Go.WideMaps Go.RowKit Go.Proofs.YthjfofgcikfepaaW.PrintWords Go.Proofs.YthjfofgcikfepaaW.PrintLast Go.Proofs.YthjfofgcikfepaaW.PrintMore
set_option linter.unusedVariables false
set_option linter.unusedSimpArgs false
set_option maxHeartbeats 10000000
set_option maxRecDepth 100000
/-! the document's answer: which snapshots may be -/
theorem rchk_go (a b : Int) (ms : List Int) (d : ByteArray) (hl : ms.length ≤ 7) : ∀ (t : List Int) (i : Nat) (l : Int), ms.drop i = t → i ≤ ms.length → -1 ≤ l → (i = 0 → l = -1) → (0 < i → l = rd ms ((i : Int) - 1)) →
    Ev (fun k => stowageref07_Check.l0 k (i : Int) a b ms d) (if upS t l = true then endC d else 1)
  | [], i, l, ht, hi, h0, h1, h2 => by
    have hge : ms.length ≤ i := by have := congrArg List.length ht; simp at this; omega
    refine Ev.step (f := fun _ => some (endC d)) (fun k => ?_) (by rw [upS, if_pos rfl]; exact Ev.now _)
    rw [stowageref07_Check.l0, if_neg (by omega)]
    exact endC_some d
  | m :: t, i, l, ht, hi, h0, h1, h2 => by
    have hlt : i < ms.length := by have := congrArg List.length ht; simp at this; omega
    have e := List.drop_eq_getElem_cons hlt
    rw [ht] at e
    injection e with e1 e2
    have em : rd ms ((i : Nat) : Int) = m := by rw [rdI ms i hlt, ← e1]
    have hG : l < m ∧ m < 7 → Ev (fun k => stowageref07_Check.l0 k ((i + 1 : Nat) : Int) a b ms d) (if upS t m = true then endC d else 1) := fun hm =>
      rchk_go a b ms d hl t (i + 1) m e2.symm (by omega) (by omega) (fun h => absurd h (by omega)) (fun _ => by rw [show (((i + 1 : Nat) : Int) - 1) = (i : Int) by omega, em])
    have r1 : ∀ k, stowageref07_Check.l0 (k + 1) (i : Int) a b ms d = _ := fun k => by rw [stowageref07_Check.l0, if_pos (by omega), if_pos (by omega), em, w1 i (by omega)]
    refine Ev.step r1 ?_
    have hu : upS (m :: t) l = (decide (l < m ∧ m < 7) && upS t m) := rfl
    rw [hu]
    have bad : ¬ (l < m ∧ m < 7) → Ev (fun _ => some (1 : Int)) (if (decide (l < m ∧ m < 7) && upS t m) = true then endC d else 1) := fun h => by
      rw [decide_eq_false h, Bool.false_and, if_neg (by simp)]; exact Ev.now _
    have good : l < m ∧ m < 7 → Ev (fun k => stowageref07_Check.l0 k ((i + 1 : Nat) : Int) a b ms d) (if (decide (l < m ∧ m < 7) && upS t m) = true then endC d else 1) := fun h => by
      rw [decide_eq_true h, Bool.true_and]; exact hG h
    refine Ev.ite (fun h => bad (by omega)) (fun n1 => Ev.ite (fun h => bad (by omega)) (fun n2 => Ev.ite (fun h3 => ?_) (fun h3 => ?_)))
    · have ew : wrap64 ((i : Int) - 1) = ((i : Int) - 1) := IntWalk.wrap64_in _ (by omega)
      have el := h2 (by omega)
      rw [ew, ← el]
      refine Ev.congr (f := fun k => if m ≤ l then some 1 else stowageref07_Check.l0 k ((i + 1 : Nat) : Int) a b ms d) (fun k => by rw [if_pos (by omega), if_pos (by omega)]) ?_
      exact Ev.ite (fun h => bad (by omega)) (fun h => good (by omega))
    · have := h1 (by omega)
      exact good (by omega)
theorem rchk_ev (a b : Int) (ms : List Int) (d : ByteArray) : Ev (fun k => stowageref07_Check.f k a b ms d) (chkS a b ms d) := by
  have bad : (a < 0 ∨ a > 1099511627776 ∨ b < 0 ∨ b > 1099511627776 ∨ ms.length = 0 ∨ ms.length > 7) → Ev (fun k => stowageref07_Check.j0 k true a b ms d) (chkS a b ms d) := fun h => by
    unfold chkS
    rw [if_pos h]
    exact Ev.step (f := fun _ => some 1) (fun k => by rw [stowageref07_Check.j0, if_pos rfl]) (Ev.now _)
  unfold stowageref07_Check.f
  refine Ev.ite (fun h => bad (by omega)) (fun h1 => Ev.ite (fun h => bad (by omega)) (fun h2 => Ev.ite (fun h => bad (by omega)) (fun h3 => Ev.ite (fun h => bad (by omega)) (fun h4 => Ev.ite (fun h => bad (by omega)) (fun h5 => ?_)))))
  by_cases h6 : (ms.length : Int) > 7
  · rw [decide_eq_true h6]; exact bad (by omega)
  · rw [decide_eq_false h6]
    unfold chkS
    rw [if_neg (by omega)]
    refine Ev.step (f := fun k => stowageref07_Check.l0 k ((0 : Nat) : Int) a b ms d) (fun k => by rw [stowageref07_Check.j0, if_neg (by simp)]; rfl) ?_
    exact rchk_go a b ms d (by omega) ms 0 (-1) rfl (by omega) (by omega) (fun _ => rfl) (fun h => absurd h (by omega))
end Go.Proofs.Ythjfofgcikfepaa.Q
