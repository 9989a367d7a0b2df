
/- digest.Unhex and slices.Clone, as the print asks for them. -/
import Derived.Test.YtpgbkeaaklglkaaGreatDoorQ7
import Derived.Test.YtpgbkeaaklglkaaGreatDoorDigits
namespace Go.Proofs.YtpgbkeaaklglkaaGreatDoor.Q
open Go.RowKit Go.Proofs.YtpgbkeaaklglkaaGreatDoorW.PrintWords Go.Proofs.YtpgbkeaaklglkaaGreatDoorW.PrintLast Go.Proofs.YtpgbkeaaklglkaaGreatDoorW.PrintMore
set_option linter.unusedVariables false
set_option linter.unusedSimpArgs false
set_option maxHeartbeats 10000000
set_option maxRecDepth 100000
noncomputable def unhexQ.f (a0 : ByteArray) : Option (ByteArray × Int) := if a0.size ≤ 140737488351232 then some (unhexF a0) else none
theorem unhexQ.calls (a0 : ByteArray) (r1 : ByteArray) (r2 : Int) (w : World) (h : unhexQ.f a0 = some (r1, r2)) :
  Calls Tryz.prog 49 #[.string a0] w fun e w' => e = .returned (.tuple #[.string r1, .int .i64 r2]) ∧ Below w.heap.size w w' := by
 unfold unhexQ.f at h
 by_cases hc : a0.size ≤ 140737488351232
 case neg => rw [if_neg hc] at h; cases h
 rw [if_pos hc] at h
 have h2 := Option.some.inj h
 have e1 : (unhexF a0).1 = r1 := by rw [h2]
 have e2 : (unhexF a0).2 = r2 := by rw [h2]
 rw [← e1, ← e2]
 exact digest_Unhex.calls a0 w hc
def api_Piece.f (l0 : List S65) : Option (List S65) := if l0.length < 5000000000000 then some l0 else none
structure HaltP (p : Prop) : Prop where mk :: (out : p)
theorem k65_KM {w : World} {base : Nat} {ok : Nat → Prop} {x : S65} {cs : List Value} {w' : World} (h : k65.K w x cs) : k65.M w' base ok x cs := by
 rw [k65_open h]
 exact ⟨[.string x.f0], [.int .i64 x.f1], rfl, rfl, rfl⟩
theorem api_Piece.calls (A0 : Option Addr) (c0 : Nat) (l0 : List S65) (r : List S65) (w : World) (hr0 : Kd.C k65 w A0 l0.length l0) (hc0 : l0.length ≤ c0) (h : api_Piece.f l0 = some r) :
  Calls Tryz.prog 50 #[.slice A0 l0.length c0] w fun e w' => ∃ v0_ : Value, e = .returned (v0_) ∧ Kd.R k65 65 w' w.heap.size (fun _ => True) v0_ r ∧ Below w.heap.size w w' := by
 unfold api_Piece.f at h
 by_cases hb : l0.length < 5000000000000
 case neg => rw [if_neg hb] at h; exact absurd h (by simp)
 rw [if_pos hb] at h
 obtain rfl := Option.some.inj h
 have HR := Aside0.mk hr0
 have HL := Aside0.mk hb
 clear h hb hc0
 rcases A0 with _ | ad
 ·have h0 : l0.length = 0 := by
   rcases Nat.eq_zero_or_pos l0.length with h | h
   ·exact h
   ·obtain ⟨ad, e, _⟩ := hr0.2.2 h
    cases e
  obtain rfl : l0 = [] := List.eq_nil_of_length_eq_zero h0
  clear hr0 h0
  go_enter Tryz.func50, Tryz.ntmps50
  go_wp2_with ((with_reducible refine gate_dst (N := 4) rfl ?_); refine HaltP.out ?_)
  refine ⟨?_⟩
  refine Kd.event_run (v := .bool true) (w1 := w) rfl ?hr ?_
  case hr => first | (go_simp; done) | (go_simp; rfl)
  go_wp2
  go_ret
  exact ⟨_, rfl, Kd.R_nil _ _ _ _ _, Below.refl _ _⟩
 ·clear hr0
  go_enter Tryz.func50, Tryz.ntmps50
  go_wp2_with ((with_reducible refine gate_dst (N := 4) rfl ?_); refine HaltP.out ?_)
  refine ⟨?_⟩
  refine Kd.event_run (v := .bool false) (w1 := w) rfl ?hr ?_
  case hr => first | (go_simp; done) | (go_simp; rfl)
  go_wp2_with ((with_reducible refine gate_dst (N := 5) rfl ?_); refine HaltP.out ?_)
  refine ⟨?_⟩
  refine Kd.R_lit k65 (w0 := w) w.heap.size 65 rfl (N := 5) rfl (xs := []) (inner := []) (ok := fun _ => True) (okp := fun _ => True) ?hq ?hp (fun _ hk => hk) trivial (Below.refl _ _) (Nat.le_refl _) (by simp) ?_
  case hq => first | (go_simp; done) | (go_simp; rfl)
  case hp => exact ⟨by simp, fun j p h => by simp at h⟩
  intro v1 w1 hR hB _ _
  have R1 := Aside0.mk hR
  have B1 := Aside0.mk hB
  clear hR hB
  go_wp2_with ((with_reducible refine gate_dst (N := 7) rfl ?_); refine HaltP.out ?_)
  refine ⟨?_⟩
  refine Kd.R_append_rows k65 (Rr := k65.K w1) (w0 := w) w.heap.size rfl (.tmp 5) (.tmp 6) 31 65 (.agg #[(.string ⟨#[]⟩), (.int .i64 0)]) 24 rfl Tryz.underlying31 info65 rfl (by decide) (by decide) v1 [] l0 (some ad) l0.length c0 (fun _ => True) (fun _ => False) ?e1 ?e2 R1.out (Kd.C_below HR.out B1.out) (fun x cs h => k65_KM h) (fun _ h => h.elim) (fun _ _ => trivial) B1.out B1.out.size (by have := HL.out; simp only [List.length_nil]; omega) ?_
  case e1 => rfl
  case e2 => rfl
  intro v2 w2 hR hB _ _
  rw [List.nil_append] at hR
  have R2 := Aside0.mk hR
  have B2 := Aside0.mk hB
  clear hR hB
  go_wp2
  go_ret
  exact ⟨_, rfl, R2.out, B2.out⟩
end Go.Proofs.YtpgbkeaaklglkaaGreatDoor.Q