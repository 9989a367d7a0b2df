/- Saving, whatever the snapshot. -/
import Derived.Outline
import Derived.StillTailTactics
import Derived.Deep.AppendLies
import Derived.Test.YthjfofgcikfepaaShR
namespace Go.Proofs.Ythjfofgcikfepaa.Q
open Go.Maps Go.WideShapes Go.WideMaps Go.RowKit Go.Proofs.YthjfofgcikfepaaW.PrintWords Go.Proofs.YthjfofgcikfepaaW.PrintLast Go.Proofs.YthjfofgcikfepaaW.PrintMore
set_option linter.unusedVariables false
set_option linter.unusedSimpArgs false
set_option maxHeartbeats 10000000
set_option maxRecDepth 100000
theorem below_far4 {base : Nat} {w0 w : World} {g : Nat} (h : Below base w0 w) (hg : base ≤ g) (v0 v1 v2 v3 : Value) : Below base w0 ((((w.setCell ⟨g, 0, none⟩ v0).setCell ⟨g, 1, none⟩ v1).setCell ⟨g, 2, none⟩ v2).setCell ⟨g, 3, none⟩ v3) :=
  (((h.setCell (p := ⟨g, 0, none⟩) hg v0).setCell (p := ⟨g, 1, none⟩) hg v1).setCell (p := ⟨g, 2, none⟩) hg v2).setCell (p := ⟨g, 3, none⟩) hg v3
/-! Save, whatever the snapshot -/
def saveA (st : DK) (a b : Int) (ms : List Int) (t : ByteArray) : DK × Int := if chkS a b ms t = 0 then saveK st (frameS (shotT a b ms t)) else (st, chkS a b ms t)
theorem saveA_calls {w : World} {d : Nat} {ok : Nat → Prop} {x y : Option ByteArray} {n : Int} {f : List Fal} {r : Int} (h : IsD w d ok (idle x y n f r false)) (hnew : ∀ k, w.heap.size ≤ k → ok k)
    (a b : Int) (A : Option Addr) (ms : List Int) (c : Nat) (t : ByteArray) (hC : Kd.C (Kd.int .i64) w A ms.length ms) (hc : ms.length ≤ c)
    (hz : osz x + osz y ≤ 3000000000000000000) (hn : 0 ≤ n ∧ n ≤ 100000) (hf : f.length ≤ 1000000) :
    Calls Try.prog 21 #[.pointer (some ⟨d, 0, none⟩), .agg #[.int .i64 a, .int .i64 b, .slice A ms.length c, .string t]] w fun e w' => e = .returned (.int .i64 (saveA (idle x y n f r false) a b ms t).2) ∧ IsD w' d ok (saveA (idle x y n f r false) a b ms t).1 ∧ Kp ok w w' := by
  by_cases h0 : chkS a b ms t = 0
  · have e : saveA (idle x y n f r false) a b ms t = saveK (idle x y n f r false) (frameS (shotT a b ms t)) := if_pos h0
    rw [e]
    exact save_calls h hnew a b A ms c t hC hc h0 hz hn hf
  · have e : saveA (idle x y n f r false) a b ms t = (idle x y n f r false, chkS a b ms t) := if_neg h0
    rw [e]
    have hen : encS a b ms t = (⟨#[]⟩, chkS a b ms t) := by unfold encS; rw [if_neg h0]
    obtain ⟨k1, hk1⟩ := (enc_ev a b ms t).rounds
    rw [hen] at hk1
    have h1 : (chkS a b ms t != 0) = true := bne_iff_ne.mpr h0
    have hu := Try.underlying24
    have HX := Aside0.mk (heap_alloc_new w (.cells #[.int .i64 a, .int .i64 b, .slice A ms.length c, .string t] 24 (0, 0)))
    have B1 : Aside0 (Below w.heap.size w (w.alloc (.cells #[.int .i64 a, .int .i64 b, .slice A ms.length c, .string t] 24 (0, 0)))) := ⟨below_alloc (Below.refl _ _) _⟩
    have H := Aside0.mk h
    have HCW := Aside0.mk (Kd.C_below hC B1.out)
    have HCC := Aside0.mk hc
    have HE := Aside0.mk hk1
    have e0 := (blk_cell HX.out 0).trans rfl
    have e1 := (blk_cell HX.out 1).trans rfl
    have e2 := (blk_cell HX.out 2).trans rfl
    have e3 := (blk_cell HX.out 3).trans rfl
    clear h hnew hC hc hz hn hf h0 hk1 hen e
    generalize chkS a b ms t = ck at HE h1 ⊢
    go_enter Try.func21, Try.ntmps21
    go_wp2_with (fail)
    refine (shot_Encode.calls k1 a b A c ms t ⟨#[]⟩ ck _ HCW.out HCC.out HE.out).mono ?_
    rintro e w2 ⟨rfl, hb⟩
    have B2 := Aside0.mk (below_step B1.out hb)
    clear hb e0 e1 e2 e3 HX
    go_wp2
    go_ret
    exact ⟨rfl, H.out.below B2.out, Kp.of_below B2.out⟩
theorem chk_err (a b : Int) (ms : List Int) (t : ByteArray) : chkS a b ms t = 0 ∨ chkS a b ms t = 1 ∨ chkS a b ms t = 2 := by
  unfold chkS endC
  repeat' split
  all_goals simp
/-- a Save without falls -/
theorem saveA_nofall (x y : Option ByteArray) (n : Int) (r : Int) (a b : Int) (ms : List Int) (t : ByteArray) :
    (chkS a b ms t = 0 ∧ saveA (idle x y n [] r false) a b ms t = (idle (some (frameS (shotT a b ms t))) none (n + 2) [] r false, 0))
    ∨ (0 ≤ r ∧ saveA (idle x y n [] r false) a b ms t = (idle x y n [] r false, 22))
    ∨ (chkS a b ms t ≠ 0 ∧ saveA (idle x y n [] r false) a b ms t = (idle x y n [] r false, chkS a b ms t)) := by
  by_cases h0 : chkS a b ms t = 0
  · have e : saveA (idle x y n [] r false) a b ms t = saveK (idle x y n [] r false) (frameS (shotT a b ms t)) := if_pos h0
    rw [e]
    have h := save_idle x y n [] r (frameS (shotT a b ms t))
    generalize saveK (idle x y n [] r false) (frameS (shotT a b ms t)) = p at h
    obtain ⟨p1, p2⟩ := p
    simp only at h
    cases h with
    | ok => exact Or.inl ⟨h0, rfl⟩
    | full h => exact Or.inr (Or.inl ⟨h, rfl⟩)
    | fall1 i y' hi => exact absurd hi (Nat.not_lt_zero _)
    | fall2 i x' y' hi => exact absurd hi (Nat.not_lt_zero _)
  · exact Or.inr (Or.inr ⟨h0, if_neg h0⟩)
end Go.Proofs.Ythjfofgcikfepaa.Q
