/- The worked example of the laws. -/
import Derived.Outline
import Derived.StillTailTactics
import Derived.Deep.AppendLies
import Derived.Test.YthjfofgcikfepaaShD
namespace Go.Proofs.Ythjfofgcikfepaa.Q
open Go.Maps Go.WideShapes Go.WideMaps Go.RowKit Go.Proofs.YthjfofgcikfepaaW.PrintWords Go.Proofs.YthjfofgcikfepaaW.PrintLast Go.Proofs.YthjfofgcikfepaaW.PrintMore
set_option linter.unusedVariables false
set_option linter.unusedSimpArgs false
set_option maxHeartbeats 10000000
set_option maxRecDepth 100000
/-! what was saved is loaded -/
theorem fileR_frame {a b : Int} {ms : List Int} {t : ByteArray} (h : chkS a b ms t = 0) : fileR (frameS (shotT a b ms t)) = ((a, b, ms, t), true, 0) := by
  have hz := shotT_size (fineS h)
  have hu : unframe (frameS (shotT a b ms t)) 0 = (shotT a b ms t, ((frameS (shotT a b ms t)).size : Int), 0) := by
    unfold unframe
    rw [if_neg (by omega)]
    have := unframe_frame (frameS (shotT a b ms t)) (shotT a b ms t) 0 [] (Nat.zero_le _) (by omega) (by rw [List.drop_zero, nb_frameS, List.append_nil])
    rw [show (0 : Int).toNat = 0 from rfl, this, frameS_size, Nat.zero_add]
  unfold fileR
  simp only
  rw [hu]
  simp only
  rw [dec_shotT h]
  exact if_pos ⟨trivial, trivial, rfl⟩
theorem fail_idle (x y : Option ByteArray) (n : Int) (f : List Fal) (r keep torn : Int) : failK (idle x y n f r false) keep torn = idle x y n f r true := by
  have h : failF (idle x y n f r false) keep torn = snF x y := by
    unfold failF
    simp [idle]
  unfold failK
  rw [if_neg (by simp [idle]), h]
  rfl
theorem load_none (x : Option ByteArray) (n : Int) (f : List Fal) (r : Int) : loadK (idle x none n f r false) = (idle x none n f r false, 0) := by
  rcases load_cases x none n f r with ⟨_, _, h⟩ | ⟨_, h, _⟩ | ⟨_, h, _⟩
  · exact h
  · exact absurd h (by simp)
  · exact absurd h (by simp)
theorem save_plain (x y : Option ByteArray) (n : Int) (F : ByteArray) : saveK (idle x y n [] (-1) false) F = (idle (some F) none (n + 2) [] (-1) false, 0) := by
  have h := save_idle x y n [] (-1) F
  generalize saveK (idle x y n [] (-1) false) F = p at h
  obtain ⟨p1, p2⟩ := p
  simp only at h
  cases h with
  | ok => rfl
  | full h => exact absurd h (by decide)
  | fall1 i y' hi => exact absurd hi (Nat.not_lt_zero _)
  | fall2 i x' y' hi => exact absurd hi (Nat.not_lt_zero _)
/-! the worked example of the laws -/
abbrev tX : ByteArray := ⟨#[120]⟩
theorem aw_chk : chkS 4 2 [0, 3] tX = 0 := by decide +kernel
theorem ints2 (w : World) (a b : Int) : Kd.C (Kd.int .i64) (w.alloc (.cells #[.int .i64 a, .int .i64 b] 3 (0, 0))) (some ⟨w.heap.size, 0, none⟩) 2 [a, b] := by
  refine Kd.C_of_reads (enc := Value.int .i64) (d := 0) ⟨rfl, by decide, fun _ => ⟨⟨w.heap.size, 0, none⟩, rfl, fun i hi => ?_⟩⟩
  have : i = 0 ∨ i = 1 := by have : i < 2 := hi; omega
  rcases this with rfl | rfl
  · exact (blk_cell (heap_alloc_new w _) 0).trans rfl
  · exact (blk_cell (heap_alloc_new w _) 1).trans rfl
theorem awk_calls (w : World) : Calls Try.prog 16 #[] w fun e w' => e = .returned (.bool true) ∧ Below w.heap.size w w' := by
  have hu := Try.underlying24
  go_enter Try.func16, Try.ntmps16
  go_wp2_with (fail)
  refine (new_calls w).mono ?_
  rintro e w1 ⟨d, rfl, hI, hb⟩
  have B1 := Aside0.mk hb
  have I1 : Aside0 (IsD w1 d (fun k => w.heap.size ≤ k) (idle none none 0 [] (-1) false)) := ⟨hI⟩
  clear hb hI
  go_wp2_with (fail)
  have b2 : Below w1.heap.size w1 (w1.alloc (.cells #[.int .i64 0, .int .i64 3] 3 (0, 0))) := below_alloc (Below.refl _ _) _
  have hC := ints2 w1 0 3
  have B2 := Aside0.mk (B1.out.trans (b2.mono B1.out.size))
  have I2 := Aside0.mk (I1.out.below b2)
  have HC := Aside0.mk hC
  clear b2 hC I1 B1
  generalize w1.alloc (.cells #[.int .i64 0, .int .i64 3] 3 (0, 0)) = w2 at B2 I2 HC ⊢
  refine (save_calls (x := none) (y := none) (n := 0) (f := []) (r := -1) I2.out (fun k hk => Nat.le_trans B2.out.size hk) 4 2 (some ⟨w1.heap.size, 0, none⟩) [0, 3] 2 tX HC.out (by decide) aw_chk (by decide) (by decide) (by decide)).mono ?_
  rintro e w3 ⟨rfl, hI, hK⟩
  rw [save_plain] at hI ⊢
  have HFL : Aside0 ((shotT 4 2 [0, 3] tX).size ≤ 131182 ∧ fileR (frameS (shotT 4 2 [0, 3] tX)) = ((4, 2, [0, 3], tX), true, 0)) := ⟨shotT_size (fineS aw_chk), fileR_frame aw_chk⟩
  have HFZ : Aside0 ((frameS (shotT 4 2 [0, 3] tX)).size ≤ 131190) := ⟨by rw [frameS_size]; have := HFL.out.1; omega⟩
  generalize frameS (shotT 4 2 [0, 3] tX) = F at HFL HFZ hI ⊢
  have B3 := Aside0.mk (B2.out.trans (hK.below B2.out.size))
  have I3 := Aside0.mk hI
  clear hI hK I2 B2 HC
  go_wp2_with (fail)
  refine (fail_calls I3.out (fun k hk => Nat.le_trans B3.out.size hk) trivial 0 0).mono ?_
  rintro e w4 ⟨rfl, hI, hK⟩
  rw [fail_idle] at hI
  have B4 := Aside0.mk (B3.out.trans (hK.below B3.out.size))
  have I4 := Aside0.mk hI
  clear hI hK I3 B3
  go_wp2_with (fail)
  refine (up_calls I4.out).mono ?_
  rintro e w5 ⟨rfl, hI, hK⟩
  have B5 := Aside0.mk (B4.out.trans (hK.below B4.out.size))
  have I5 : Aside0 (IsD w5 d (fun k => w.heap.size ≤ k) (idle (some F) none (0 + 2) [] (-1) false)) := ⟨hI⟩
  clear hI hK I4 B4
  go_wp2_with (fail)
  refine (load_calls I5.out (fun k hk => Nat.le_trans B5.out.size hk) (by show F.size ≤ _; have := HFZ.out; omega) (by show F.size + 0 ≤ _; have := HFZ.out; omega) (by decide) (by decide) ((4, 2, [0, 3], tX), true, 0) (by rw [load_none]; exact HFL.out.2.symm)).mono ?_
  rintro e w6 ⟨v, rfl, hR, hI, hK⟩
  obtain ⟨A, c, rfl, hlc, hC⟩ := Kd.R_reads hR
  have B6 := Aside0.mk (B5.out.trans (hK.below B5.out.size))
  have b7 : Below w6.heap.size w6 (w6.alloc (.cells #[.int .i64 4, .int .i64 2, .slice A 2 c, .string tX] 24 (0, 0))) := below_alloc (Below.refl _ _) _
  have hr := Kd.reads_of_C (enc := Value.int .i64) (d := 0) (Kd.C_below hC b7)
  obtain ⟨ad, e9, h9⟩ := hr.at_ 1 (by decide) (by decide)
  have HX := Aside0.mk (heap_alloc_new w6 (.cells #[.int .i64 4, .int .i64 2, .slice A 2 c, .string tX] 24 (0, 0)))
  have B7 := Aside0.mk (B6.out.trans (b7.mono B6.out.size))
  subst e9
  clear hR hI hK I5 B5 b7 hr hC
  have e0 := (blk_cell HX.out 0).trans rfl
  have e1 := (blk_cell HX.out 1).trans rfl
  have e2 := (blk_cell HX.out 2).trans rfl
  have e3 := (blk_cell HX.out 3).trans rfl
  have h9' : (w6.alloc (.cells #[.int .i64 4, .int .i64 2, .slice (some ad) 2 c, .string tX] 24 (0, 0))).cell? ⟨ad.block, ad.off + 1, none⟩ = some (.int .i64 3) := h9
  clear h9
  go_wp2
  go_ret
  exact ⟨rfl, B7.out⟩
end Go.Proofs.Ythjfofgcikfepaa.Q
