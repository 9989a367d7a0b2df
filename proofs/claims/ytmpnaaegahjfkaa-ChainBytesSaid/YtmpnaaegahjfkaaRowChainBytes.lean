/- The row of ChainBytes out of its walk: for every input the law answers true, and what came in reads as it did. -/
import Derived.Test.YtmpnaaegahjfkaaRows
import Derived.Test.YtmpnaaegahjfkaaOpen
import Derived.Test.YtmpnaaegahjfkaaWalkChainBytes
import Derived.WalkKit
import Derived.ProofKit
import Derived.OpenShut
import Derived.ShutString
import Derived.ChangeOld
import Derived.Below
import Derived.SizedLaws
namespace Go.Proofs.Ytmpnaaegahjfkaa.chainBytes
open Go.ChangeShapes Go.WideShapes Go.ChangeAt Go.RowKit Go.Proofs.Ytmpnaaegahjfkaa.Open Go.Proofs.YtmpnaaegahjfkaaW.PrintWords
open Go.ChangeMaps (open_string shut_string)
set_option linter.unusedVariables false
theorem own : ownKnob Try.prog.godebug = none := by kernel_rfl
theorem laidOut : laidOutB Try.prog = true := by kernel_rfl
theorem opens_k72 : Opens Try.prog Q.k72 72 (fun x => (x.f0.size ≤ 140737488351232 ∧ (Lit.int .i64 x.f1).wf = true)) (fun x => (((x.f0.size + 1) + 1) + 1)) := opens_struct (β := Q.S72) (fun x => (x.f0, x.f1)) (fun a => ⟨a.1, a.2⟩) (fun _ => rfl) Try.underlying72 (by kernel_rfl) (fields_cons (d := Kd.string) (off := 0) (by rfl) (by kernel_rfl) (opens_str Try.underlying9) (fields_one (d := (Kd.int .i64)) (off := 1) (by rfl) (by kernel_rfl) (opens_int (k := .i64) Try.underlying3)))
theorem opens_k24 : Opens Try.prog Q.k24 24 (fun x => ((Lit.int .i64 x.f0).wf = true ∧ (True ∧ ((Lit.int .i64 x.f2).wf = true ∧ (x.f3.size ≤ 140737488351232 ∧ (x.f4.length * 24 ≤ 140737488351232 ∧ ∀ y0 ∈ x.f4, (y0.f0.size ≤ 140737488351232 ∧ (Lit.int .i64 y0.f1).wf = true))))))) (fun x => ((1 + (1 + (1 + ((x.f3.size + 1) + ((x.f4.map fun y0 => (((y0.f0.size + 1) + 1) + 1)).sum + 1))))) + 1)) := opens_struct (β := Q.S24) (fun x => (x.f0, x.f1, x.f2, x.f3, x.f4)) (fun a => ⟨a.1, a.2.1, a.2.2.1, a.2.2.2.1, a.2.2.2.2⟩) (fun _ => rfl) Try.underlying24 (by kernel_rfl) (fields_cons (d := (Kd.int .i64)) (off := 0) (by rfl) (by kernel_rfl) (opens_int (k := .i64) Try.underlying3) (fields_cons (d := Kd.bool) (off := 1) (by rfl) (by kernel_rfl) (opens_bool Try.underlying4) (fields_cons (d := (Kd.int .i64)) (off := 2) (by rfl) (by kernel_rfl) (opens_int (k := .i64) Try.underlying3) (fields_cons (d := Kd.string) (off := 3) (by rfl) (by kernel_rfl) (opens_str Try.underlying9) (fields_one (d := (Kd.slice 72 Q.k72)) (off := 4) (by rfl) (by kernel_rfl) (opens_slice (B := 24) Try.underlying22 (by kernel_rfl) (by kernel_rfl) opens_k72))))))
set_option maxRecDepth 100000 in
theorem lifted (os : Os) (started : os.Started) (H : Type) (enc : TypeId × Value → H) :
    ReturnsInHanded {} Try.checked os 7 .any (Rows.chainBytesSpec.pre6 enc Try.prog Try.f7 Rows.chainBytesRow.domain false) (Rows.chainBytesSpec.post enc Try.prog Try.f7 false true false false) := by
  refine returnsInHanded_of_change_sized (C := Try.checked) own started (by kernel_rfl) Try.func7
    (ChangeSpec.witness6 (enc := enc) (C := Try.checked) false ⟨#[], #[.slice none 0 0, .string ByteArray.empty], []⟩ 8 (by kernel_rfl) (by kernel_rfl) (by kernel_rfl) (by kernel_rfl)) ?_
  intro W base args ds gs before hval0 hW hcnd hsz0 _
  have hsz : (DataW.weightsEach Try.prog (Try.f7.params.toList ++ Rows.chainBytesSpec.plain.varTypes Try.prog) (ds ++ gs)).all (· ≤ reachBytes) = true := hsz0
  have hval : ∀ (j : Nat) t v, Try.f7.params[j]? = some t → args[j]? = some v → Value.okWide Try.prog W .any base t v := hval0
  have hW' := hW
  obtain ⟨p, q, hA0, hV, rfl, hfz, hnd⟩ := hW
  have hA : DataW.TrodAll enc Try.prog W 0 (fun _ => true) true Try.f7.params.toList args.toList ds p := hA0
  rw [Try.params7] at hA hval hsz
  obtain ⟨v0, vs0, d0, ds0, p0, q0, hargs, rfl, rfl, h0, r0⟩ := trodAll_cons hA
  obtain ⟨v1, vs1, d1, ds1, p1, q1, rfl, rfl, rfl, h1, r1⟩ := trodAll_cons r0
  obtain ⟨rfl, rfl, rfl⟩ := trodAll_nil r1
  obtain rfl : args = #[v0, v1] := by cases args; simp_all
  obtain ⟨rfl, rfl⟩ := trodVars_none hV
  have k0 := h0
  have lt0 : ∀ x ∈ p0, x.block < W.heap.size := by obtain ⟨m, hm⟩ := k0; exact DataW.trod_lt m _ _ _ hm
  obtain ⟨fu0, hf0⟩ := h0
  obtain ⟨a0, K0, g0, b0⟩ := (opens_slice (B := 64) Try.underlying39 (by kernel_rfl) (by kernel_rfl) opens_k24) enc W 0 _ true fu0 _ _ hf0 (weights_at _ _ hsz 0 39 d0 rfl rfl)
  obtain ⟨A0, c0, rfl, l0, C0⟩ := shape_slice Try.underlying39 (hval 0 39 v0 rfl rfl) K0
  have k1 := h1
  have lt1 : ∀ x ∈ p1, x.block < W.heap.size := by obtain ⟨m, hm⟩ := k1; exact DataW.trod_lt m _ _ _ hm
  obtain ⟨fu1, hf1⟩ := h1
  obtain ⟨a1, K1, g1, b1⟩ := (opens_str Try.underlying9) enc W 0 _ true fu1 _ _ hf1 (weights_at _ _ hsz 1 9 d1 rfl rfl)
  obtain rfl := shape_str Try.underlying9 (hval 1 9 v1 rfl rfl) K1
  clear hA0 hval0 hsz0 hsz
  refine (Walks.ChainBytes W A0 c0 a0 l0 C0 g0 a1 g1).mono fun e W' ⟨he, bel⟩ => ?_
  subst he
  exact ⟨_, rfl, _, _, _, [], _, [], hW', trodAll_mk1 (shut_bool Try.underlying4 _), (trodAll_cons_mk (Below.trod laidOut (by kernel_rfl) (of_decide_eq_true (by kernel_rfl)) k0 bel lt0) (trodAll_cons_mk (Below.trod laidOut (by kernel_rfl) (of_decide_eq_true (by kernel_rfl)) k1 bel lt1) trodAll_mk0)), rfl, bel.frame _, fun h => by cases h⟩
theorem over : Rows.chainBytesRow.holds Try.pinned (OpenSpec.ofChange Rows.chainBytesSpec) :=
  OpenClaim.holds_of_wide 7 Try.f7 rfl rfl rfl rfl rfl rfl rfl ⟨rfl, rfl, rfl, rfl, rfl⟩ rfl rfl rfl rfl rfl (by kernel_rfl) Try.func7 (by kernel_rfl)
    (of_decide_eq_true (by kernel_rfl)) (by unfold Func.isWrapper; first | (rw [if_pos (by decide +kernel)]; kernel_rfl) | (rw [if_neg (by decide +kernel)]; exact ⟨rfl, rfl⟩))
    (fun os started H enc _ => lifted os started H enc)
theorem proved : Rows.ChainBytesSaid := over
end Go.Proofs.Ytmpnaaegahjfkaa.chainBytes
namespace Go.Proofs.Ytmpnaaegahjfkaa
/-- The row, under a short name, for the claim. -/
theorem chainBytes_holds : Rows.ChainBytesSaid := chainBytes.proved
#print axioms chainBytes_holds
end Go.Proofs.Ytmpnaaegahjfkaa
