/- The row of DiskPrefix out of its walk: for every input the law answers true, and what came in reads as it did. -/
import Derived.Test.YtabngibognlmoaaRows
import Derived.Test.YtabngibognlmoaaOpen
import Derived.Test.YtabngibognlmoaaWalkDiskPrefix
import Derived.WalkKit
import Derived.ProofKit
import Derived.OpenShut
import Derived.ShutString
import Derived.ChangeOld
import Derived.Below
import Derived.SizedLaws
namespace Go.Proofs.Ytabngibognlmoaa.diskPrefix
open Go.ChangeShapes Go.WideShapes Go.ChangeAt Go.RowKit Go.Proofs.Ytabngibognlmoaa.Open Go.Proofs.YtabngibognlmoaaW.PrintWords
open Go.ChangeMaps (open_string shut_string)
set_option linter.unusedVariables false
theorem own : ownKnob Try.prog.godebug = none := by kernel_rfl
theorem laidOut : laidOutB Try.prog = true := by kernel_rfl
theorem opens_k23 : Opens Try.prog Q.k23 23 (fun x => ((Lit.int .i64 x.f0).wf = true ∧ ((Lit.int .i64 x.f1).wf = true ∧ (Lit.int .i64 x.f2).wf = true))) (fun x => ((1 + (1 + 1)) + 1)) := opens_struct (β := Q.S23) (fun x => (x.f0, x.f1, x.f2)) (fun a => ⟨a.1, a.2.1, a.2.2⟩) (fun _ => rfl) Try.underlying23 (by kernel_rfl) (fields_cons (d := (Kd.int .i64)) (off := 0) (by rfl) (by kernel_rfl) (opens_int (k := .i64) Try.underlying3) (fields_cons (d := (Kd.int .i64)) (off := 1) (by rfl) (by kernel_rfl) (opens_int (k := .i64) Try.underlying3) (fields_one (d := (Kd.int .i64)) (off := 2) (by rfl) (by kernel_rfl) (opens_int (k := .i64) Try.underlying3))))
theorem opens_k40 : Opens Try.prog Q.k40 40 (fun x => ((Lit.int .i64 x.f0).wf = true ∧ (x.f1.size ≤ 140737488351232 ∧ (x.f2.size ≤ 140737488351232 ∧ (x.f3.size ≤ 140737488351232 ∧ ((Lit.int .i64 x.f4).wf = true ∧ (((Lit.int .i64 x.f5.f0).wf = true ∧ ((Lit.int .i64 x.f5.f1).wf = true ∧ (Lit.int .i64 x.f5.f2).wf = true)) ∧ (x.f6.length * 24 ≤ 140737488351232 ∧ ∀ y0 ∈ x.f6, ((Lit.int .i64 y0.f0).wf = true ∧ ((Lit.int .i64 y0.f1).wf = true ∧ (Lit.int .i64 y0.f2).wf = true)))))))))) (fun x => ((1 + ((x.f1.size + 1) + ((x.f2.size + 1) + ((x.f3.size + 1) + (1 + (((1 + (1 + 1)) + 1) + ((x.f6.map fun y0 => ((1 + (1 + 1)) + 1)).sum + 1))))))) + 1)) := opens_struct (β := Q.S40) (fun x => (x.f0, x.f1, x.f2, x.f3, x.f4, x.f5, x.f6)) (fun a => ⟨a.1, a.2.1, a.2.2.1, a.2.2.2.1, a.2.2.2.2.1, a.2.2.2.2.2.1, a.2.2.2.2.2.2⟩) (fun _ => rfl) Try.underlying40 (by kernel_rfl) (fields_cons (d := (Kd.int .i64)) (off := 0) (by rfl) (by kernel_rfl) (opens_int (k := .i64) Try.underlying3) (fields_cons (d := Kd.string) (off := 1) (by rfl) (by kernel_rfl) (opens_str Try.underlying9) (fields_cons (d := Kd.string) (off := 2) (by rfl) (by kernel_rfl) (opens_str Try.underlying9) (fields_cons (d := Kd.string) (off := 3) (by rfl) (by kernel_rfl) (opens_str Try.underlying9) (fields_cons (d := (Kd.int .i64)) (off := 4) (by rfl) (by kernel_rfl) (opens_int (k := .i64) Try.underlying3) (fields_cons (d := Q.k23) (off := 5) (by rfl) (by kernel_rfl) opens_k23 (fields_one (d := (Kd.slice 23 Q.k23)) (off := 8) (by rfl) (by kernel_rfl) (opens_slice (B := 24) Try.underlying32 (by kernel_rfl) (by kernel_rfl) opens_k23))))))))
set_option maxRecDepth 100000 in
theorem lifted (os : Os) (started : os.Started) (H : Type) (enc : TypeId × Value → H) :
    ReturnsInHanded {} Try.checked os 6 .any (Rows.diskPrefixSpec.pre6 enc Try.prog Try.f6 Rows.diskPrefixRow.domain false) (Rows.diskPrefixSpec.post enc Try.prog Try.f6 false true false false) := by
  refine returnsInHanded_of_change_sized (C := Try.checked) own started (by kernel_rfl) Try.func6
    (ChangeSpec.witness6 (enc := enc) (C := Try.checked) false ⟨#[], #[.slice none 0 0, .slice none 0 0, .int .i64 0], []⟩ 8 (by kernel_rfl) (by kernel_rfl) (by kernel_rfl) (by kernel_rfl)) ?_
  intro W base args ds gs before hval0 hW hcnd hsz0 _
  have hsz : (DataW.weightsEach Try.prog (Try.f6.params.toList ++ Rows.diskPrefixSpec.plain.varTypes Try.prog) (ds ++ gs)).all (· ≤ reachBytes) = true := hsz0
  have hval : ∀ (j : Nat) t v, Try.f6.params[j]? = some t → args[j]? = some v → Value.okWide Try.prog W .any base t v := hval0
  have hW' := hW
  obtain ⟨p, q, hA0, hV, rfl, hfz, hnd⟩ := hW
  have hA : DataW.TrodAll enc Try.prog W 0 (fun _ => true) true Try.f6.params.toList args.toList ds p := hA0
  rw [Try.params6] at hA hval hsz
  obtain ⟨v0, vs0, d0, ds0, p0, q0, hargs, rfl, rfl, h0, r0⟩ := trodAll_cons hA
  obtain ⟨v1, vs1, d1, ds1, p1, q1, rfl, rfl, rfl, h1, r1⟩ := trodAll_cons r0
  obtain ⟨v2, vs2, d2, ds2, p2, q2, rfl, rfl, rfl, h2, r2⟩ := trodAll_cons r1
  obtain ⟨rfl, rfl, rfl⟩ := trodAll_nil r2
  obtain rfl : args = #[v0, v1, v2] := by cases args; simp_all
  obtain ⟨rfl, rfl⟩ := trodVars_none hV
  have k0 := h0
  have lt0 : ∀ x ∈ p0, x.block < W.heap.size := by obtain ⟨m, hm⟩ := k0; exact DataW.trod_lt m _ _ _ hm
  obtain ⟨fu0, hf0⟩ := h0
  obtain ⟨a0, K0, g0, b0⟩ := (opens_slice (B := 112) Try.underlying37 (by kernel_rfl) (by kernel_rfl) opens_k40) enc W 0 _ true fu0 _ _ hf0 (weights_at _ _ hsz 0 37 d0 rfl rfl)
  obtain ⟨A0, c0, rfl, l0, C0⟩ := shape_slice Try.underlying37 (hval 0 37 v0 rfl rfl) K0
  have k1 := h1
  have lt1 : ∀ x ∈ p1, x.block < W.heap.size := by obtain ⟨m, hm⟩ := k1; exact DataW.trod_lt m _ _ _ hm
  obtain ⟨fu1, hf1⟩ := h1
  obtain ⟨a1, K1, g1, b1⟩ := (opens_slice (B := 112) Try.underlying37 (by kernel_rfl) (by kernel_rfl) opens_k40) enc W 0 _ true fu1 _ _ hf1 (weights_at _ _ hsz 1 37 d1 rfl rfl)
  obtain ⟨A1, c1, rfl, l1, C1⟩ := shape_slice Try.underlying37 (hval 1 37 v1 rfl rfl) K1
  have k2 := h2
  have lt2 : ∀ x ∈ p2, x.block < W.heap.size := by obtain ⟨m, hm⟩ := k2; exact DataW.trod_lt m _ _ _ hm
  obtain ⟨fu2, hf2⟩ := h2
  obtain ⟨a2, K2, g2, b2⟩ := (opens_int (k := .i64) Try.underlying3) enc W 0 _ true fu2 _ _ hf2 (weights_at _ _ hsz 2 3 d2 rfl rfl)
  obtain rfl := shape_int Try.underlying3 (hval 2 3 v2 rfl rfl) K2
  clear hA0 hval0 hsz0 hsz
  refine (Q.w_DiskPrefix W A0 c0 a0 l0 C0 g0 A1 c1 a1 l1 C1 g1 a2 g2).mono fun e W' ⟨he, bel⟩ => ?_
  subst he
  exact ⟨_, rfl, _, _, _, [], _, [], hW', trodAll_mk1 (shut_bool Try.underlying4 _), (trodAll_cons_mk (Below.trod laidOut (by kernel_rfl) (of_decide_eq_true (by kernel_rfl)) k0 bel lt0) (trodAll_cons_mk (Below.trod laidOut (by kernel_rfl) (of_decide_eq_true (by kernel_rfl)) k1 bel lt1) (trodAll_cons_mk (Below.trod laidOut (by kernel_rfl) (of_decide_eq_true (by kernel_rfl)) k2 bel lt2) trodAll_mk0))), rfl, bel.frame _, fun h => by cases h⟩
theorem over : Rows.diskPrefixRow.holds Try.pinned (OpenSpec.ofChange Rows.diskPrefixSpec) :=
  OpenClaim.holds_of_wide 6 Try.f6 rfl rfl rfl rfl rfl rfl rfl ⟨rfl, rfl, rfl, rfl, rfl⟩ rfl rfl rfl rfl rfl (by kernel_rfl) Try.func6 (by kernel_rfl)
    (of_decide_eq_true (by kernel_rfl)) (by unfold Func.isWrapper; first | (rw [if_pos (by decide +kernel)]; kernel_rfl) | (rw [if_neg (by decide +kernel)]; exact ⟨rfl, rfl⟩))
    (fun os started H enc _ => lifted os started H enc)
theorem proved : Rows.DiskPrefixSaid := over
end Go.Proofs.Ytabngibognlmoaa.diskPrefix
namespace Go.Proofs.Ytabngibognlmoaa
/-- The row, under a short name, for the claim. -/
theorem diskPrefix_holds : Rows.DiskPrefixSaid := diskPrefix.proved
#print axioms diskPrefix_holds
end Go.Proofs.Ytabngibognlmoaa
