/- The row of DiskPlays out of its walk: for every input the law answers true, and what came in reads as it did. -/
import Derived.Test.YtabngibognlmoaaRows
import Derived.Test.YtabngibognlmoaaOpen
import Derived.Test.YtabngibognlmoaaWalkDiskPlays
import Derived.WalkKit
import Derived.ProofKit
import Derived.OpenShut
import Derived.ShutString
import Derived.ChangeOld
import Derived.Below
import Derived.SizedLaws
namespace Go.Proofs.Ytabngibognlmoaa.diskPlays
open Go.ChangeShapes Go.WideShapes Go.ChangeAt Go.RowKit Go.Proofs.Ytabngibognlmoaa.Open Go.Proofs.YtabngibognlmoaaW.PrintWords
open Go.ChangeMaps (open_string shut_string)
set_option linter.unusedVariables false
theorem own : ownKnob Try.prog.godebug = none := by kernel_rfl
theorem laidOut : laidOutB Try.prog = true := by kernel_rfl
theorem opens_k23 : Opens Try.prog Q.k23 23 (fun x => ((Lit.int .i64 x.f0).wf = true ∧ ((Lit.int .i64 x.f1).wf = true ∧ (Lit.int .i64 x.f2).wf = true))) (fun x => ((1 + (1 + 1)) + 1)) := opens_struct (β := Q.S23) (fun x => (x.f0, x.f1, x.f2)) (fun a => ⟨a.1, a.2.1, a.2.2⟩) (fun _ => rfl) Try.underlying23 (by kernel_rfl) (fields_cons (d := (Kd.int .i64)) (off := 0) (by rfl) (by kernel_rfl) (opens_int (k := .i64) Try.underlying3) (fields_cons (d := (Kd.int .i64)) (off := 1) (by rfl) (by kernel_rfl) (opens_int (k := .i64) Try.underlying3) (fields_one (d := (Kd.int .i64)) (off := 2) (by rfl) (by kernel_rfl) (opens_int (k := .i64) Try.underlying3))))
theorem opens_k40 : Opens Try.prog Q.k40 40 (fun x => ((Lit.int .i64 x.f0).wf = true ∧ (x.f1.size ≤ 140737488351232 ∧ (x.f2.size ≤ 140737488351232 ∧ (x.f3.size ≤ 140737488351232 ∧ ((Lit.int .i64 x.f4).wf = true ∧ (((Lit.int .i64 x.f5.f0).wf = true ∧ ((Lit.int .i64 x.f5.f1).wf = true ∧ (Lit.int .i64 x.f5.f2).wf = true)) ∧ (x.f6.length * 24 ≤ 140737488351232 ∧ ∀ y0 ∈ x.f6, ((Lit.int .i64 y0.f0).wf = true ∧ ((Lit.int .i64 y0.f1).wf = true ∧ (Lit.int .i64 y0.f2).wf = true)))))))))) (fun x => ((1 + ((x.f1.size + 1) + ((x.f2.size + 1) + ((x.f3.size + 1) + (1 + (((1 + (1 + 1)) + 1) + ((x.f6.map fun y0 => ((1 + (1 + 1)) + 1)).sum + 1))))))) + 1)) := opens_struct (β := Q.S40) (fun x => (x.f0, x.f1, x.f2, x.f3, x.f4, x.f5, x.f6)) (fun a => ⟨a.1, a.2.1, a.2.2.1, a.2.2.2.1, a.2.2.2.2.1, a.2.2.2.2.2.1, a.2.2.2.2.2.2⟩) (fun _ => rfl) Try.underlying40 (by kernel_rfl) (fields_cons (d := (Kd.int .i64)) (off := 0) (by rfl) (by kernel_rfl) (opens_int (k := .i64) Try.underlying3) (fields_cons (d := Kd.string) (off := 1) (by rfl) (by kernel_rfl) (opens_str Try.underlying9) (fields_cons (d := Kd.string) (off := 2) (by rfl) (by kernel_rfl) (opens_str Try.underlying9) (fields_cons (d := Kd.string) (off := 3) (by rfl) (by kernel_rfl) (opens_str Try.underlying9) (fields_cons (d := (Kd.int .i64)) (off := 4) (by rfl) (by kernel_rfl) (opens_int (k := .i64) Try.underlying3) (fields_cons (d := Q.k23) (off := 5) (by rfl) (by kernel_rfl) opens_k23 (fields_one (d := (Kd.slice 23 Q.k23)) (off := 8) (by rfl) (by kernel_rfl) (opens_slice (B := 24) Try.underlying32 (by kernel_rfl) (by kernel_rfl) opens_k23))))))))
set_option maxRecDepth 100000 in
theorem lifted (os : Os) (started : os.Started) (H : Type) (enc : TypeId × Value → H) :
    ReturnsInHanded {} Try.checked os 7 .any (Rows.diskPlaysSpec.pre6 enc Try.prog Try.f7 Rows.diskPlaysRow.domain false) (Rows.diskPlaysSpec.post enc Try.prog Try.f7 false true false false) := by
  refine returnsInHanded_of_change_sized (C := Try.checked) own started (by kernel_rfl) Try.func7
    (ChangeSpec.witness6 (enc := enc) (C := Try.checked) false ⟨#[], #[.slice none 0 0], []⟩ 8 (by kernel_rfl) (by kernel_rfl) (by kernel_rfl) (by kernel_rfl)) ?_
  intro W base args ds gs before hval0 hW hcnd hsz0 _
  have hsz : (DataW.weightsEach Try.prog (Try.f7.params.toList ++ Rows.diskPlaysSpec.plain.varTypes Try.prog) (ds ++ gs)).all (· ≤ reachBytes) = true := hsz0
  have hval : ∀ (j : Nat) t v, Try.f7.params[j]? = some t → args[j]? = some v → Value.okWide Try.prog W .any base t v := hval0
  have hW' := hW
  obtain ⟨p, q, hA0, hV, rfl, hfz, hnd⟩ := hW
  have hA : DataW.TrodAll enc Try.prog W 0 (fun _ => true) true Try.f7.params.toList args.toList ds p := hA0
  rw [Try.params7] at hA hval hsz
  obtain ⟨v0, vs0, d0, ds0, p0, q0, hargs, rfl, rfl, h0, r0⟩ := trodAll_cons hA
  obtain ⟨rfl, rfl, rfl⟩ := trodAll_nil r0
  obtain rfl : args = #[v0] := by cases args; simp_all
  obtain ⟨rfl, rfl⟩ := trodVars_none hV
  have k0 := h0
  have lt0 : ∀ x ∈ p0, x.block < W.heap.size := by obtain ⟨m, hm⟩ := k0; exact DataW.trod_lt m _ _ _ hm
  obtain ⟨fu0, hf0⟩ := h0
  obtain ⟨a0, K0, g0, b0⟩ := (opens_slice (B := 112) Try.underlying37 (by kernel_rfl) (by kernel_rfl) opens_k40) enc W 0 _ true fu0 _ _ hf0 (weights_at _ _ hsz 0 37 d0 rfl rfl)
  obtain ⟨A0, c0, rfl, l0, C0⟩ := shape_slice Try.underlying37 (hval 0 37 v0 rfl rfl) K0
  clear hA0 hval0 hsz0 hsz
  refine (Q.w_DiskPlays W A0 c0 a0 l0 C0 g0).mono fun e W' ⟨he, bel⟩ => ?_
  subst he
  exact ⟨_, rfl, _, _, _, [], _, [], hW', trodAll_mk1 (shut_bool Try.underlying4 _), (trodAll_cons_mk (Below.trod laidOut (by kernel_rfl) (of_decide_eq_true (by kernel_rfl)) k0 bel lt0) trodAll_mk0), rfl, bel.frame _, fun h => by cases h⟩
theorem over : Rows.diskPlaysRow.holds Try.pinned (OpenSpec.ofChange Rows.diskPlaysSpec) :=
  OpenClaim.holds_of_wide 7 Try.f7 rfl rfl rfl rfl rfl rfl rfl ⟨rfl, rfl, rfl, rfl, rfl⟩ rfl rfl rfl rfl rfl (by kernel_rfl) Try.func7 (by kernel_rfl)
    (of_decide_eq_true (by kernel_rfl)) (by unfold Func.isWrapper; first | (rw [if_pos (by decide +kernel)]; kernel_rfl) | (rw [if_neg (by decide +kernel)]; exact ⟨rfl, rfl⟩))
    (fun os started H enc _ => lifted os started H enc)
theorem proved : Rows.DiskPlaysSaid := over
end Go.Proofs.Ytabngibognlmoaa.diskPlays
namespace Go.Proofs.Ytabngibognlmoaa
/-- The row, under a short name, for the claim. -/
theorem diskPlays_holds : Rows.DiskPlaysSaid := diskPlays.proved
#print axioms diskPlays_holds
end Go.Proofs.Ytabngibognlmoaa
