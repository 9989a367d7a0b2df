/- The row of ShotWhole out of its walk: for every input the law answers true, and what came in reads as it did. -/
import Derived.Test.YthjfofgcikfepaaRows
import Derived.Test.YthjfofgcikfepaaOpen
import Derived.Test.YthjfofgcikfepaaWalkShotWhole
import Derived.WalkKit
import Derived.ProofKit
import Derived.OpenShut
import Derived.ShutString
import Derived.ChangeOld
import Derived.Below
import Derived.SizedLaws
namespace Go.Proofs.Ythjfofgcikfepaa.shotWhole
open Go.ChangeShapes Go.WideShapes Go.ChangeAt Go.RowKit Go.Proofs.Ythjfofgcikfepaa.Open Go.Proofs.YthjfofgcikfepaaW.PrintWords
open Go.ChangeMaps (open_string shut_string)
set_option linter.unusedVariables false
theorem own : ownKnob Try.prog.godebug = none := by kernel_rfl
theorem laidOut : laidOutB Try.prog = true := by kernel_rfl
theorem opens_k24 : Opens Try.prog Q.k24 24 (fun x => ((Lit.int .i64 x.f0).wf = true ∧ ((Lit.int .i64 x.f1).wf = true ∧ ((x.f2.length * 8 ≤ 140737488351232 ∧ ∀ y0 ∈ x.f2, (Lit.int .i64 y0).wf = true) ∧ x.f3.size ≤ 140737488351232)))) (fun x => ((1 + (1 + (((x.f2.map fun y0 => 1).sum + 1) + (x.f3.size + 1)))) + 1)) := opens_struct (β := Q.S24) (fun x => (x.f0, x.f1, x.f2, x.f3)) (fun a => ⟨a.1, a.2.1, a.2.2.1, a.2.2.2⟩) (fun _ => rfl) Try.underlying24 (by kernel_rfl) (fields_cons (d := (Kd.int .i64)) (off := 0) (by rfl) (by kernel_rfl) (opens_int (k := .i64) Try.underlying3) (fields_cons (d := (Kd.int .i64)) (off := 1) (by rfl) (by kernel_rfl) (opens_int (k := .i64) Try.underlying3) (fields_cons (d := (Kd.slice 3 (Kd.int .i64))) (off := 2) (by rfl) (by kernel_rfl) (opens_slice (B := 8) Try.underlying22 (by kernel_rfl) (by kernel_rfl) (opens_int (k := .i64) Try.underlying3)) (fields_one (d := Kd.string) (off := 3) (by rfl) (by kernel_rfl) (opens_str Try.underlying9)))))
set_option maxRecDepth 100000 in
theorem lifted (os : Os) (started : os.Started) (H : Type) (enc : TypeId × Value → H) :
    ReturnsInHanded {} Try.checked os 9 .any (Rows.shotWholeSpec.pre6 enc Try.prog Try.f9 Rows.shotWholeRow.domain false) (Rows.shotWholeSpec.post enc Try.prog Try.f9 false true false false) := by
  refine returnsInHanded_of_change_sized (C := Try.checked) own started (by kernel_rfl) Try.func9
    (ChangeSpec.witness6 (enc := enc) (C := Try.checked) false ⟨#[], #[.agg #[.int .i64 0, .int .i64 0, .slice none 0 0, .string ByteArray.empty], .int .i64 0, .slice none 0 0], []⟩ 8 (by kernel_rfl) (by kernel_rfl) (by kernel_rfl) (by kernel_rfl)) ?_
  intro W base args ds gs before hval0 hW hcnd hsz0 _
  have hsz : (DataW.weightsEach Try.prog (Try.f9.params.toList ++ Rows.shotWholeSpec.plain.varTypes Try.prog) (ds ++ gs)).all (· ≤ reachBytes) = true := hsz0
  have hval : ∀ (j : Nat) t v, Try.f9.params[j]? = some t → args[j]? = some v → Value.okWide Try.prog W .any base t v := hval0
  have hW' := hW
  obtain ⟨p, q, hA0, hV, rfl, hfz, hnd⟩ := hW
  have hA : DataW.TrodAll enc Try.prog W 0 (fun _ => true) true Try.f9.params.toList args.toList ds p := hA0
  rw [Try.params9] at hA hval hsz
  obtain ⟨v0, vs0, d0, ds0, p0, q0, hargs, rfl, rfl, h0, r0⟩ := trodAll_cons hA
  obtain ⟨v1, vs1, d1, ds1, p1, q1, rfl, rfl, rfl, h1, r1⟩ := trodAll_cons r0
  obtain ⟨v2, vs2, d2, ds2, p2, q2, rfl, rfl, rfl, h2, r2⟩ := trodAll_cons r1
  obtain ⟨rfl, rfl, rfl⟩ := trodAll_nil r2
  obtain rfl : args = #[v0, v1, v2] := by cases args; simp_all
  obtain ⟨rfl, rfl⟩ := trodVars_none hV
  have k0 := h0
  have lt0 : ∀ x ∈ p0, x.block < W.heap.size := by obtain ⟨m, hm⟩ := k0; exact DataW.trod_lt m _ _ _ hm
  obtain ⟨fu0, hf0⟩ := h0
  obtain ⟨a0, K0, g0, b0⟩ := opens_k24 enc W 0 _ true fu0 _ _ hf0 (weights_at _ _ hsz 0 24 d0 rfl rfl)
  obtain ⟨cs0, rfl⟩ := shape_struct Try.underlying24 (hval 0 24 v0 rfl rfl)
  have k1 := h1
  have lt1 : ∀ x ∈ p1, x.block < W.heap.size := by obtain ⟨m, hm⟩ := k1; exact DataW.trod_lt m _ _ _ hm
  obtain ⟨fu1, hf1⟩ := h1
  obtain ⟨a1, K1, g1, b1⟩ := (opens_int (k := .i64) Try.underlying3) enc W 0 _ true fu1 _ _ hf1 (weights_at _ _ hsz 1 3 d1 rfl rfl)
  obtain rfl := shape_int Try.underlying3 (hval 1 3 v1 rfl rfl) K1
  have k2 := h2
  have lt2 : ∀ x ∈ p2, x.block < W.heap.size := by obtain ⟨m, hm⟩ := k2; exact DataW.trod_lt m _ _ _ hm
  obtain ⟨fu2, hf2⟩ := h2
  obtain ⟨a2, K2, g2, b2⟩ := (opens_slice (B := 8) Try.underlying22 (by kernel_rfl) (by kernel_rfl) (opens_int (k := .i64) Try.underlying3)) enc W 0 _ true fu2 _ _ hf2 (weights_at _ _ hsz 2 22 d2 rfl rfl)
  obtain ⟨A2, c2, rfl, l2, C2⟩ := shape_slice Try.underlying22 (hval 2 22 v2 rfl rfl) K2
  clear hA0 hval0 hsz0 hsz
  refine (Q.w_ShotWhole W cs0 a0 K0 g0 a1 g1 A2 c2 a2 l2 C2 g2).mono fun e W' ⟨he, bel⟩ => ?_
  subst he
  exact ⟨_, rfl, _, _, _, [], _, [], hW', trodAll_mk1 (shut_bool Try.underlying4 _), (trodAll_cons_mk (Below.trod laidOut (by kernel_rfl) (of_decide_eq_true (by kernel_rfl)) k0 bel lt0) (trodAll_cons_mk (Below.trod laidOut (by kernel_rfl) (of_decide_eq_true (by kernel_rfl)) k1 bel lt1) (trodAll_cons_mk (Below.trod laidOut (by kernel_rfl) (of_decide_eq_true (by kernel_rfl)) k2 bel lt2) trodAll_mk0))), rfl, bel.frame _, fun h => by cases h⟩
theorem over : Rows.shotWholeRow.holds Try.pinned (OpenSpec.ofChange Rows.shotWholeSpec) :=
  OpenClaim.holds_of_wide 9 Try.f9 rfl rfl rfl rfl rfl rfl rfl ⟨rfl, rfl, rfl, rfl, rfl⟩ rfl rfl rfl rfl rfl (by kernel_rfl) Try.func9 (by kernel_rfl)
    (of_decide_eq_true (by kernel_rfl)) (by unfold Func.isWrapper; first | (rw [if_pos (by decide +kernel)]; kernel_rfl) | (rw [if_neg (by decide +kernel)]; exact ⟨rfl, rfl⟩))
    (fun os started H enc _ => lifted os started H enc)
theorem proved : Rows.ShotWholeSaid := over
end Go.Proofs.Ythjfofgcikfepaa.shotWhole
namespace Go.Proofs.Ythjfofgcikfepaa
/-- The row, under a short name, for the claim. -/
theorem shotWhole_holds : Rows.ShotWholeSaid := shotWhole.proved
#print axioms shotWhole_holds
end Go.Proofs.Ythjfofgcikfepaa
