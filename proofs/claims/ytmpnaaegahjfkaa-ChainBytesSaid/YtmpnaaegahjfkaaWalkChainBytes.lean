
/- ChainBytes answers true at every input. -/
import Derived.Test.YtmpnaaegahjfkaaPe
import Derived.Test.YtmpnaaegahjfkaaQx25
namespace Go.Proofs.Ytmpnaaegahjfkaa.Q
open Go.RowKit Go.Proofs.YtmpnaaegahjfkaaW.PrintWords Go.Proofs.YtmpnaaegahjfkaaW.PrintLast Go.Proofs.YtmpnaaegahjfkaaW.PrintMore
set_option linter.unusedVariables false
set_option linter.unusedSimpArgs false
theorem okV_of {v : S24} (hv : ((Lit.int .i64 v.f0).wf = true ∧ (True ∧ ((Lit.int .i64 v.f2).wf = true ∧ (v.f3.size ≤ 140737488351232 ∧ (v.f4.length * 24 ≤ 140737488351232 ∧ ∀ y1 ∈ v.f4, (y1.f0.size ≤ 140737488351232 ∧ (Lit.int .i64 y1.f1).wf = true))))))) : OkV v := ⟨Nat.le_trans hv.2.2.2.1 (by omega), by have := hv.2.2.2.2.1; omega, fun p hp => Nat.le_trans (hv.2.2.2.2.2 p hp).1 (by omega)⟩
theorem bytes_ev (l : List S24) (s : ByteArray) (hl : l.length ≤ 2199023255550) (hok : ∀ v ∈ l, OkV v) (hs : s.size ≤ 140737488351232) : Ev (fun k => stowagelaw13_ChainBytes.f k l s) true := by
 have hD := decodeS_ok s
 unfold stowagelaw13_ChainBytes.f
 refine Ev.bind (encode_ev l (by omega) hok) (Ev.bind (refs_ev l (by omega) hok) (Ev.bind (rencode_ev l (by omega) hok) (Ev.bind (decode_ev s hs) (Ev.bind (rdecode_ev s hs) (Ev.bind awake_ev ?_)))))
 refine Ev.congr (fun k => by rw [if_pos rfl, if_pos rfl]; exact if_pos rfl) (Ev.bind (refs_ev (decodeS s).1 (by omega) hD.2) (Ev.bind (alikeM_ev (decodeS s).1 (by omega) hD.2) ?_))
 refine Ev.congr (f := fun _ => some true) (fun k => ?_) (Ev.now _)
 rw [if_pos rfl, beq_self_eq_true]
end Go.Proofs.Ytmpnaaegahjfkaa.Q
namespace Go.Proofs.Ytmpnaaegahjfkaa.Walks
open Go.RowKit Go.Proofs.Ytmpnaaegahjfkaa.Q Go.Proofs.YtmpnaaegahjfkaaW.PrintWords Go.Proofs.YtmpnaaegahjfkaaW.PrintLast Go.Proofs.YtmpnaaegahjfkaaW.PrintMore
set_option linter.unusedVariables false
theorem ChainBytes (W : World) (A0 : Option Addr) (c0 : Nat) (a0 : List S24) (l0 : a0.length ≤ c0) (C0 : Kd.C k24 W A0 a0.length a0) (g0 : (a0.length * 64 ≤ 140737488351232 ∧ ∀ y0 ∈ a0, ((Lit.int .i64 y0.f0).wf = true ∧ (True ∧ ((Lit.int .i64 y0.f2).wf = true ∧ (y0.f3.size ≤ 140737488351232 ∧ (y0.f4.length * 24 ≤ 140737488351232 ∧ ∀ y1 ∈ y0.f4, (y1.f0.size ≤ 140737488351232 ∧ (Lit.int .i64 y1.f1).wf = true)))))))) (a1 : ByteArray) (g1 : a1.size ≤ 140737488351232) :
  Calls Try.prog 7 #[.slice A0 a0.length c0, .string a1] W fun e w' => e = .returned (.bool true) ∧ Below W.heap.size W w' := by
 obtain ⟨k, hk⟩ := (bytes_ev a0 a1 (by have := g0.1; omega) (fun v hv => okV_of (g0.2 v hv)) g1).rounds
 exact stowagelaw13_ChainBytes.calls k A0 c0 a0 a1 true W C0 l0 hk
end Go.Proofs.Ytmpnaaegahjfkaa.Walks