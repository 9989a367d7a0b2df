/- ChainChecks answers true at every input. -/
import Derived.Test.YtmpnaaegahjfkaaQx10
import Derived.Test.YtmpnaaegahjfkaaPv
namespace Go.Proofs.Ytmpnaaegahjfkaa.Q
open Go.RowKit Go.Proofs.YtmpnaaegahjfkaaW.PrintWords Go.Proofs.YtmpnaaegahjfkaaW.PrintLast Go.Proofs.YtmpnaaegahjfkaaW.PrintMore
set_option linter.unusedVariables false
set_option linter.unusedSimpArgs false
theorem checks_ev (a : Int) (b : Bool) (c : Int) (d : ByteArray) (l : List S72) (hd : d.size ≤ 140737488355328) (hl : l.length ≤ 5864062014800) (hs : ∀ p ∈ l, p.f0.size ≤ 140737488355328) : Ev (fun k => stowagelaw13_ChainChecks.f k a b c d l) true := by
  have hs4 : ∀ p ∈ l.map m74, p.f0.size ≤ 140737488355328 := by
    intro p hp
    obtain ⟨q, hq, rfl⟩ := List.mem_map.1 hp
    exact hs q hq
  have hl4 : (l.map m74).length ≤ 9000000000000 := by rw [List.length_map]; omega
  have hP := pieces74_ev (l.map m74) hl4 hs4
  have hC := check74_ev a b c d (l.map m74) hd hl4 hs4
  rw [pieces_m] at hP hC
  rw [List.length_map] at hC
  unfold stowagelaw13_ChainChecks.f
  refine Ev.bind (pieces_ev l (fun p hp => Nat.le_trans (hs p hp) (by omega))) (Ev.bind (piece_ev l hl) (Ev.bind hP (Ev.bind awake_ev ?_)))
  refine Ev.congr (f := fun k => (chain_Check.f k a b c d l).bind fun t232 => ((stowagelaw13_Ref.f k a b c d l).bind fun bt233 => ((stowageref13_Check.f k bt233.1 bt233.2.1 bt233.2.2.1 bt233.2.2.2.1 bt233.2.2.2.2).bind fun t240 => (some (t232 == t240))))) (fun k => by rw [if_pos rfl, if_pos rfl, if_pos rfl]) ?_
  refine Ev.bind (check_ev a b c d l hd hs) (Ev.bind (ref_ev a b c d l hl) (Ev.bind hC ?_))
  rw [beq_self_eq_true]
  exact Ev.now _
end Go.Proofs.Ytmpnaaegahjfkaa.Q
namespace Go.Proofs.Ytmpnaaegahjfkaa.Walks
open Go.RowKit Go.Proofs.Ytmpnaaegahjfkaa.Q Go.Proofs.YtmpnaaegahjfkaaW.PrintWords Go.Proofs.YtmpnaaegahjfkaaW.PrintLast Go.Proofs.YtmpnaaegahjfkaaW.PrintMore
set_option linter.unusedVariables false
theorem ChainChecks (W : World) (cs0 : Array Value) (a0 : S24) (K0 : k24.K W a0 cs0.toList) (g0 : ((Lit.int .i64 a0.f0).wf = true ∧ (True ∧ ((Lit.int .i64 a0.f2).wf = true ∧ (a0.f3.size ≤ 140737488351232 ∧ (a0.f4.length * 24 ≤ 140737488351232 ∧ ∀ y0 ∈ a0.f4, (y0.f0.size ≤ 140737488351232 ∧ (Lit.int .i64 y0.f1).wf = true))))))) :
    Calls Try.prog 3 #[.agg cs0] W fun e w' => e = .returned (.bool true) ∧ Below W.heap.size W w' := by
  obtain ⟨A4, c4, e, h4, g4⟩ := k24_open K0
  obtain rfl : cs0 = #[.int .i64 a0.f0, .bool a0.f1, .int .i64 a0.f2, .string a0.f3, .slice A4 a0.f4.length c4] := by cases cs0; simp at e; rw [e]
  obtain ⟨k, hk⟩ := (checks_ev a0.f0 a0.f1 a0.f2 a0.f3 a0.f4 (Nat.le_trans g0.2.2.2.1 (by omega)) (by have := g0.2.2.2.2.1; omega) (fun p hp => Nat.le_trans (g0.2.2.2.2.2 p hp).1 (by omega))).rounds
  exact stowagelaw13_ChainChecks.calls k a0.f0 a0.f1 a0.f2 a0.f3 A4 c4 a0.f4 true W g4 h4 hk
end Go.Proofs.Ytmpnaaegahjfkaa.Walks
