

/- Functions of digest and of the document's digest, printed. -/
import Derived.Test.YtpgbkeaaklglkaaGreatDoorQx0
import Derived.Test.YtpgbkeaaklglkaaGreatDoorMarked
namespace Go.Proofs.YtpgbkeaaklglkaaGreatDoor.Q
open Go.RowKit Go.Proofs.YtpgbkeaaklglkaaGreatDoorW.PrintWords Go.Proofs.YtpgbkeaaklglkaaGreatDoorW.PrintLast Go.Proofs.YtpgbkeaaklglkaaGreatDoorW.PrintMore
attribute [local go_sem] max2_int min2_int max_two min_two max_three min_three max_four min_four   -- for this text's walks alone
set_option linter.unusedVariables false
set_option linter.unusedSimpArgs false
attribute [local go_sem] xor_ones_u8 xor_ones_u16 xor_ones_u32 xor_ones_u64 cell_twice frozen_twice
-- NOT PRINTED: function 107 (slices_partitionOrdered_string)

-- NOT PRINTED: function 93 (slices_pdqsortOrdered_string)

-- NOT PRINTED: function 76 (slices_Sort_string_string)

-- NOT PRINTED: function 59 (slices_Sorted_string)

-- NOT PRINTED: function 60 (maps_Keys_map_string_string_string_string)

-- NOT PRINTED: function 33 (disk_Disk_Names)
open Go.Proofs.YtpgbkeaaklglkaaGreatDoor.Marked
abbrev zdaa := @pw_below_drewN
abbrev zdab := @below_drew1
abbrev zdac := @below_alloc
abbrev zdad := @Aside0.mk
/-! ### digest_half: function 71 -/
def digest_half.j0 : Nat → Int → Bool → Option (Int × Bool)
 | 0, _, _ => none
 | k + 1, x0, x4 => if x4 = true then (some ((x0 - 48) % 256, true)) else (if x0 ≥ 97 then (if x0 ≤ 102 then (some ((((x0 - 97) % 256) + 10) % 256, true)) else (some (0, false))) else (some (0, false)))
def digest_half.f (k : Nat) (a0 : Int) : Option (Int × Bool) := if a0 ≥ 48 then (digest_half.j0 k a0 (decide (a0 ≤ 57))) else (digest_half.j0 k a0 false)
theorem digest_half.mono_l : ∀ k, (∀ y0 y1, LeO (digest_half.j0 k y0 y1) (digest_half.j0 (k + 1) y0 y1))
 | 0 => fun _ _ r h => by simp [digest_half.j0] at h
 | k + 1 => by
  have ih0 := digest_half.mono_l k
  ·intro y0 y1
   unfold digest_half.j0
   repeat' first
   | (with_reducible exact ih0 _ _)
   | (with_reducible exact LeO.refl _)
   | (with_reducible exact LeO.none _)
   | (with_reducible refine LeO.ite ?_ ?_)
   | (with_reducible refine LeO.bind ?_ (fun _ => ?_))
   | exact ih0 _ _
   | exact LeO.none _
   | refine LeO.ite ?_ ?_
   | refine LeO.bind ?_ (fun _ => ?_)
theorem digest_half.mono : ∀ a0 k, LeO (digest_half.f k a0) (digest_half.f (k + 1) a0) := by
 intro a0 k
 have ih0 := digest_half.mono_l k
 unfold digest_half.f
 repeat' first
   | (with_reducible exact ih0 _ _)
   | (with_reducible exact LeO.refl _)
   | (with_reducible exact LeO.none _)
   | (with_reducible refine LeO.ite ?_ ?_)
   | (with_reducible refine LeO.bind ?_ (fun _ => ?_))
   | exact ih0 _ _
   | exact LeO.none _
   | refine LeO.ite ?_ ?_
   | refine LeO.bind ?_ (fun _ => ?_)
set_option maxHeartbeats 8000000 in
set_option maxRecDepth 100000 in
theorem digest_half.calls (k : Nat) (a0 : Int) (r1 : Int) (r2 : Bool) (w : World) (h : digest_half.f k a0 = some (r1, r2)) :
  Calls Tryz.prog 71 #[.int .u8 a0] w fun e w' => e = .returned (.tuple #[.int .u8 r1, .bool r2]) ∧ Drawn0 w w' := by
 have H : (if a0 ≥ 48 then (digest_half.j0 k a0 (decide (a0 ≤ 57))) else (digest_half.j0 k a0 false)) = some (r1, r2) := h
 clear h
 have HC2 := zdad H
 clear H
 go_enter Tryz.func71, Tryz.ntmps71
 go_upto_region 1 with (fail)
 go_cut [4] (fun v4 wc => ∃ (kq : Nat) (zdah : Bool), v4 = .bool zdah ∧ Aside0 (digest_half.j0 kq a0 zdah = some (r1, r2)) ∧ Aside0 (kq ≤ k) ∧ Drawn0 w wc)
 case first =>
  have H := HC2.out
  clear HC2
  by_cases c3 : a0 ≥ 48
  ·rw [if_pos c3] at H
   have c3b0 : decide (48 ≤ a0) = true := decide_eq_true c3
   clear c3
   (first | rw [c3b0] | (simp only [i64_w, i32_w]; rw [c3b0]) | skip)
   have H' := zdad H
   clear H
   go_wp2
   go_meet
   case rel => exact ⟨_, (decide (a0 ≤ 57)), (by first | rfl | (simp; done) | (simp [*]; done)), H', ⟨by first | omega | exact Nat.le_refl _⟩, by repeat (first | exact Drawn0.refl _ | apply Drawn0.step)⟩
  ·rw [if_neg c3] at H
   have c3b0 : decide (48 ≤ a0) = false := decide_eq_false c3
   clear c3
   (first | rw [c3b0] | (simp only [i64_w, i32_w]; rw [c3b0]) | skip)
   have H' := zdad H
   clear H
   go_wp2
   go_meet
   case rel => exact ⟨_, (false), (by first | rfl | (simp; done) | (simp [*]; done)), H', ⟨by first | omega | exact Nat.le_refl _⟩, by repeat (first | exact Drawn0.refl _ | apply Drawn0.step)⟩
 case rest =>
  clear HC2
  try clear p2
  try clear c3
  try clear c3b0
  obtain ⟨kq, zdah, rfl, HA, HJ1, ⟨mc1, rfl⟩⟩ := hcut
  cases kq with
  | zero => exact absurd HA.out (by simp [digest_half.j0])
  | succ kj1 =>
   have H := HA.out
   clear HA
   simp only [digest_half.j0] at H
   by_cases c4 : zdah = true
   ·subst c4
    have H1 : (some ((a0 - 48) % 256, true)) = some (r1, r2) := by rw [if_pos rfl] at H; exact H
    clear H
    have H := H1
    clear H1
    simp only [Option.some.injEq, Prod.mk.injEq] at H
    obtain ⟨rfl, rfl⟩ := H
    go_wp2
    go_ret2
    exact ⟨by first | rfl | (simp; done) | (simp [*]; done), by repeat (first | exact Drawn0.refl _ | apply Drawn0.step)⟩
   ·replace c4 := Bool.eq_false_iff.mpr c4
    subst c4
    have H1 : (if a0 ≥ 97 then (if a0 ≤ 102 then (some ((((a0 - 97) % 256) + 10) % 256, true)) else (some (0, false))) else (some (0, false))) = some (r1, r2) := by rw [if_neg (show ¬ (false = true) by decide)] at H; exact H
    clear H
    have H := H1
    clear H1
    by_cases c5 : a0 ≥ 97
    ·rw [if_pos c5] at H
     have c5b0 : decide (97 ≤ a0) = true := decide_eq_true c5
     clear c5
     by_cases c6 : a0 ≤ 102
     ·rw [if_pos c6] at H
      have c6b0 : decide (a0 ≤ 102) = true := decide_eq_true c6
      clear c6
      simp only [Option.some.injEq, Prod.mk.injEq] at H
      obtain ⟨rfl, rfl⟩ := H
      go_wp2
      go_ret2
      exact ⟨by first | rfl | (simp; done) | (simp [*]; done), by repeat (first | exact Drawn0.refl _ | apply Drawn0.step)⟩
     ·rw [if_neg c6] at H
      have c6b0 : decide (a0 ≤ 102) = false := decide_eq_false c6
      clear c6
      simp only [Option.some.injEq, Prod.mk.injEq] at H
      obtain ⟨rfl, rfl⟩ := H
      go_wp2
      go_ret2
      exact ⟨by first | rfl | (simp; done) | (simp [*]; done), by repeat (first | exact Drawn0.refl _ | apply Drawn0.step)⟩
    ·rw [if_neg c5] at H
     have c5b0 : decide (97 ≤ a0) = false := decide_eq_false c5
     clear c5
     simp only [Option.some.injEq, Prod.mk.injEq] at H
     obtain ⟨rfl, rfl⟩ := H
     go_wp2
     go_ret2
     exact ⟨by first | rfl | (simp; done) | (simp [*]; done), by repeat (first | exact Drawn0.refl _ | apply Drawn0.step)⟩

-- NOT PRINTED: function 49 (digest_Unhex)

-- NOT PRINTED: function 35 (extent_may)

-- NOT PRINTED: function 15 (extent_Store_All)
/-! ### bits_RotateLeft32: function 73 -/
def bits_RotateLeft32.f (a0 : Int) (a1 : Int) : Option (Int) := if 0 ≤ (Go.bits .and .u64 (IntKind.u64.wrap (a1)) 31) then (if 0 ≤ (IntKind.u64.wrap (32 - (Go.bits .and .u64 (IntKind.u64.wrap (a1)) 31))) then (some (Go.bits .or .u32 (shl .u32 a0 (Go.bits .and .u64 (IntKind.u64.wrap (a1)) 31)) (shr .u32 a0 (IntKind.u64.wrap (32 - (Go.bits .and .u64 (IntKind.u64.wrap (a1)) 31)))))) else (none)) else (none)
set_option maxHeartbeats 8000000 in
set_option maxRecDepth 100000 in
theorem bits_RotateLeft32.calls (a0 : Int) (a1 : Int) (r : Int) (w : World) (h : bits_RotateLeft32.f a0 a1 = some r) :
  Calls Tryz.prog 73 #[.int .u32 a0, .int .i64 a1] w fun e w' => e = .returned (.int .u32 r) ∧ Drawn0 w w' := by
 have H : (if 0 ≤ (Go.bits .and .u64 (IntKind.u64.wrap (a1)) 31) then (if 0 ≤ (IntKind.u64.wrap (32 - (Go.bits .and .u64 (IntKind.u64.wrap (a1)) 31))) then (some (Go.bits .or .u32 (shl .u32 a0 (Go.bits .and .u64 (IntKind.u64.wrap (a1)) 31)) (shr .u32 a0 (IntKind.u64.wrap (32 - (Go.bits .and .u64 (IntKind.u64.wrap (a1)) 31)))))) else (none)) else (none)) = some r := h
 clear h
 obtain ⟨ji3, hji3⟩ : ∃ j_ : Int, (Go.bits .and .u64 (IntKind.u64.wrap (a1)) 31) = j_ := ⟨_, rfl⟩
 replace H : (if 0 ≤ (ji3) then (if 0 ≤ (IntKind.u64.wrap (32 - (ji3))) then (some (Go.bits .or .u32 (shl .u32 a0 (ji3)) (shr .u32 a0 (IntKind.u64.wrap (32 - (ji3)))))) else (none)) else (none)) = some r := by first | (rw [hji3] at H; exact H) | (simp only [hji3] at H ⊢; exact H)
 by_cases c4 : 0 ≤ (ji3)
 ·rw [if_pos c4] at H
  have c4b0 := eq_true c4
  have c4b1 : decide (0 ≤ (ji3)) = true := decide_eq_true c4
  clear c4
  obtain ⟨ji5, hji5⟩ : ∃ j_ : Int, (shl .u32 a0 (ji3)) = j_ := ⟨_, rfl⟩
  replace H : (if 0 ≤ (IntKind.u64.wrap (32 - (ji3))) then (some (Go.bits .or .u32 (ji5) (shr .u32 a0 (IntKind.u64.wrap (32 - (ji3)))))) else (none)) = some r := by first | (rw [hji5] at H; exact H) | (simp only [hji5] at H ⊢; exact H)
  have hji5_ : (IntKind.u32.wrap (a0 * 2 ^ min (ji3).toNat 32)) = ji5 := hji5
  have hji5z : (ji3) ≤ 32 → (IntKind.u32.wrap (a0 * 2 ^ (ji3).toNat)) = ji5 := shl_small hji5
  obtain ⟨ji6, hji6⟩ : ∃ j_ : Int, (IntKind.u64.wrap (32 - (ji3))) = j_ := ⟨_, rfl⟩
  replace H : (if 0 ≤ (ji6) then (some (Go.bits .or .u32 (ji5) (shr .u32 a0 (ji6)))) else (none)) = some r := by first | (rw [hji6] at H; exact H) | (simp only [hji6] at H ⊢; exact H)
  by_cases c7 : 0 ≤ (ji6)
  ·rw [if_pos c7] at H
   have c7b0 := eq_true c7
   have c7b1 : decide (0 ≤ (ji6)) = true := decide_eq_true c7
   clear c7
   obtain ⟨ji8, hji8⟩ : ∃ j_ : Int, (shr .u32 a0 (ji6)) = j_ := ⟨_, rfl⟩
   replace H : (some (Go.bits .or .u32 (ji5) (ji8))) = some r := by first | (rw [hji8] at H; exact H) | (simp only [hji8] at H ⊢; exact H)
   have hji8_ : (a0 / 2 ^ min (ji6).toNat 32) = ji8 := hji8
   have hji8z : (ji6) ≤ 32 → (a0 / 2 ^ (ji6).toNat) = ji8 := shr_small hji8
   obtain rfl := Option.some.inj H
   go_enter Tryz.func73, Tryz.ntmps73
   go_wp2
   go_ret
   exact ⟨by first | rfl | (simp; done) | (simp only [← hji3, ← hji5, ← hji6, ← hji8] <;> (first | rfl | simp)) | (simp [*]; done), by repeat (first | exact Drawn0.refl _ | apply Drawn0.step)⟩
  ·rw [if_neg c7] at H
   exact absurd H (by simp)
 ·rw [if_neg c4] at H
  exact absurd H (by simp)

-- NOT PRINTED: function 55 (digest_block)

-- NOT PRINTED: function 26 (digest_Hash_Write)

-- NOT PRINTED: function 27 (digest_Hash_Sum)

-- NOT PRINTED: function 28 (digest_Tagged)

-- NOT PRINTED: function 38 (extent_ID)
/-! ### stowageref03_padded: function 90 -/
mutual
def stowageref03_padded.l0 : Nat → ByteArray → List Int → Option (List Int)
 | 0, _, _ => none
 | k + 1, x0, x3 => if ((x3.length : Int) % 64) = 56 then (stowageref03_padded.l1 k x3 (IntKind.u64.wrap ((IntKind.u64.wrap ((x0.size : Int))) * 8)) 56) else (if x3.length < 140737488355328 then (stowageref03_padded.l0 k x0 (x3 ++ [0])) else (none))
def stowageref03_padded.l1 : Nat → List Int → Int → Int → Option (List Int)
 | 0, _, _, _ => none
 | k + 1, x3, x4, x5 => if x5 ≥ 0 then (if 0 ≤ (IntKind.u64.wrap (x5)) then (if x3.length < 140737488355328 then (stowageref03_padded.l1 k (x3 ++ [(shr .u64 x4 (IntKind.u64.wrap (x5))) % 256]) x4 (wrap64 (x5 - 8))) else (none)) else (none)) else (some x3)
end
def stowageref03_padded.f (k : Nat) (a0 : ByteArray) : Option (List Int) := if a0.size ≤ 9223372036854775807 then ((some (bytesOf a0 : List Int)).bind fun y331 => (if y331.length < 140737488355328 then (stowageref03_padded.l0 k a0 (y331 ++ [128])) else (none))) else (none)
theorem stowageref03_padded.mono_l : ∀ k, (∀ y0 y1, LeO (stowageref03_padded.l0 k y0 y1) (stowageref03_padded.l0 (k + 1) y0 y1)) ∧ (∀ y0 y1 y2, LeO (stowageref03_padded.l1 k y0 y1 y2) (stowageref03_padded.l1 (k + 1) y0 y1 y2))
 | 0 => ⟨fun _ _ r h => by simp [stowageref03_padded.l0] at h, fun _ _ _ r h => by simp [stowageref03_padded.l1] at h⟩
 | k + 1 => by
  obtain ⟨ih0, ih1⟩ := stowageref03_padded.mono_l k
  refine ⟨?_, ?_⟩
  ·intro y0 y1
   unfold stowageref03_padded.l0
   repeat' first
   | (with_reducible exact ih0 _ _)
   | (with_reducible exact ih1 _ _ _)
   | (with_reducible exact LeO.refl _)
   | (with_reducible exact LeO.none _)
   | (with_reducible refine LeO.ite ?_ ?_)
   | (with_reducible refine LeO.bind ?_ (fun _ => ?_))
   | exact ih0 _ _
   | exact ih1 _ _ _
   | exact LeO.none _
   | refine LeO.ite ?_ ?_
   | refine LeO.bind ?_ (fun _ => ?_)
  ·intro y0 y1 y2
   unfold stowageref03_padded.l1
   repeat' first
   | (with_reducible exact ih0 _ _)
   | (with_reducible exact ih1 _ _ _)
   | (with_reducible exact LeO.refl _)
   | (with_reducible exact LeO.none _)
   | (with_reducible refine LeO.ite ?_ ?_)
   | (with_reducible refine LeO.bind ?_ (fun _ => ?_))
   | exact ih0 _ _
   | exact ih1 _ _ _
   | exact LeO.none _
   | refine LeO.ite ?_ ?_
   | refine LeO.bind ?_ (fun _ => ?_)
theorem stowageref03_padded.mono : ∀ a0 k, LeO (stowageref03_padded.f k a0) (stowageref03_padded.f (k + 1) a0) := by
 intro a0 k
 obtain ⟨ih0, ih1⟩ := stowageref03_padded.mono_l k
 unfold stowageref03_padded.f
 repeat' first
   | (with_reducible exact ih0 _ _)
   | (with_reducible exact ih1 _ _ _)
   | (with_reducible exact LeO.refl _)
   | (with_reducible exact LeO.none _)
   | (with_reducible refine LeO.ite ?_ ?_)
   | (with_reducible refine LeO.bind ?_ (fun _ => ?_))
   | exact ih0 _ _
   | exact ih1 _ _ _
   | exact LeO.none _
   | refine LeO.ite ?_ ?_
   | refine LeO.bind ?_ (fun _ => ?_)
set_option maxHeartbeats 8000000 in
set_option maxRecDepth 100000 in
theorem stowageref03_padded.calls (k : Nat) (a0 : ByteArray) (r : List Int) (w : World) (h : stowageref03_padded.f k a0 = some r) :
  Calls Tryz.prog 90 #[.string a0] w fun e w' => ∃ v0_ : Value, e = .returned (v0_) ∧ RM 5 w' w.heap.size (fun _ => True) v0_ r ∧ Below w.heap.size w w' := by
 have HB := zdad (Below.refl w.heap.size w)
 have H : (if a0.size ≤ 9223372036854775807 then ((some (bytesOf a0 : List Int)).bind fun y331 => (if y331.length < 140737488355328 then (stowageref03_padded.l0 k a0 (y331 ++ [128])) else (none))) else (none)) = some r := h
 clear h
 by_cases c2 : a0.size ≤ 9223372036854775807
 ·rw [if_pos c2] at H
  have c2b0 := eq_true c2
  have c2b1 : decide (a0.size ≤ 9223372036854775807) = true := decide_eq_true c2
  try have c2b2 : (9223372036854775807 < a0.size) = False := eq_false (Nat.not_lt.2 c2)
  clear c2
  obtain ⟨y331, hy331⟩ : ∃ y_ : List Int, y_ = (bytesOf a0) := ⟨_, rfl⟩
  replace H : (if y331.length < 140737488355328 then (stowageref03_padded.l0 k a0 (y331 ++ [128])) else (none)) = some r := by first | (rw [hy331]; with_reducible exact H) | (have H2_ := (Option.bind_some _ _).symm.trans H; rw [hy331]; with_reducible exact H2_) | (have H2_ := (Option.bind_some _ _).symm.trans H; with_reducible exact H2_) | with_reducible exact H | (rw [hy331]; exact H) | exact H
  have Ny331 := zdad hy331
  clear hy331
  by_cases c3 : y331.length < 140737488355328
  ·rw [if_pos c3] at H
   have LMc3 := zdad c3
   clear c3
   obtain ⟨y334, hy334⟩ : ∃ y_ : List Int, y_ = (y331 ++ [128]) := ⟨_, rfl⟩
   replace H : (stowageref03_padded.l0 k a0 y334) = some r := by first | (rw [hy334]; with_reducible exact H) | (have H2_ := (Option.bind_some _ _).symm.trans H; rw [hy334]; with_reducible exact H2_) | (have H2_ := (Option.bind_some _ _).symm.trans H; with_reducible exact H2_) | with_reducible exact H | (rw [hy334]; exact H) | exact H
   have Ny334 := zdad hy334
   clear hy334
   have H' := zdad H
   clear H
   go_enter Tryz.func90, Tryz.ntmps90
   go_wp2_with (first | ((with_reducible refine gate_dst (N := 7) rfl ?_); refine RM_conv _ 5 rfl (N := 7) rfl 9 72 (.tmp 6) rfl a0 rfl Tryz.underlying9 Tryz.underlying72 Tryz.underlying5 (ok := fun _ => True) trivial (of_decide_eq_true (by first | (with_reducible assumption) | assumption)) (Below.refl _ _) (Nat.le_refl _) ?_; intro v332 w4 ho5 hb hg_ hnew_; clear hg_ hnew_; (first | rw [← Ny331.out] at ho5 | (simp only [Int.reduceToNat] at ho5; rw [← Ny331.out] at ho5)); have n0_ := zdad (RM_lower ho5 (below_size (by repeat (first | (with_reducible first | exact HB.out | apply zdac | apply zdaa | apply zdab) | exact HB.out)))); have n1_ := zdad (below_step (by repeat (first | (with_reducible first | exact HB.out | apply zdac | apply zdaa | apply zdab) | exact HB.out)) hb); clear HB; have HO333 := n0_; have HB := n1_; clear n0_ n1_; clear hb ho5) | ((with_reducible refine gate_builtin (b := .append) (xs := #[.tmp 7, .tmp 8]) rfl ?_); at_builtin; refine RM_append (Kd.int .u8) (w0 := w) w.heap.size rfl (.tmp 7) (.tmp 8) 72 5 (.int .u8 0) 1 rfl Tryz.underlying72 info5 rfl (by decide) (by omega) v332 y331 128 [.int .u8 128] (fun _ => True) (fun _ => False) rfl rfl ?aP (fun _ hk => hk.elim) ?aF ?aO ?aB ?aS ?aL ?_; (case aP => exact rfl); (case aB => exact (by repeat (first | (with_reducible first | exact HB.out | apply zdac | apply zdaa | apply zdab) | exact HB.out))); (case aF => exact (fun _ _ => trivial)); (case aO => exact (by (with_reducible repeat (first | apply RM_alloc | apply RM_drewN | apply RM_drew)); exact HO333.out)); (case aS => exact (below_size (by repeat (first | (with_reducible first | exact HB.out | apply zdac | apply zdaa | apply zdab) | exact HB.out)))); (case aL => have := LMc3.out; omega); intro v335 w6 ho hb hg hat; rw [← Ny334.out] at ho; have n0_ := zdad (hb); have n1_ := zdad (ho); clear HB; clear HO333; have HB := n0_; have HO336 := n1_; clear n0_ n1_; clear ho hb hg hat))
   go_loopg [3] k (fun kq v3 w' => ∃ (zdae : List Int), Aside0 (stowageref03_padded.l0 kq a0 zdae = some r) ∧ Aside0 (kq ≤ k) ∧ Aside0 (RM 5 w' w.heap.size (fun _ => True) v3 zdae) ∧ Aside0 (Below w.heap.size w w'))
   case atStart => exact ⟨(y334), H', ⟨Nat.le_refl _⟩, ⟨by (with_reducible repeat (first | apply RM_alloc | apply RM_drewN | apply RM_drew)); exact HO336.out⟩, ⟨by repeat (first | (with_reducible first | exact HB.out | apply zdac | apply zdaa | apply zdab) | exact HB.out)⟩⟩
   case round =>
    clear H'
    try clear c2
    try clear c2b0
    try clear c2b1
    try clear c2b2
    try clear p2
    try clear c3
    obtain ⟨zdae, HA, HK1, HO_3, HB⟩ := hrel
    cases gk with
    | zero => exact absurd HA.out (by simp [stowageref03_padded.l0])
    | succ k1 =>
     have H := HA.out
     clear HA
     simp only [stowageref03_padded.l0] at H
     by_cases c7 : ((zdae.length : Int) % 64) = 56
     ·rw [if_pos c7] at H
      have c7b0 : (((zdae.length : Int) % 64) == 56) = true := beq_iff_eq.mpr c7
      have c7b1 : (((zdae.length : Int) % 64) != 56) = false := bne_eq_false_iff_eq.mpr c7
      clear c7
      have H' := zdad H
      clear H
      obtain ⟨Ao8, co8, eo8⟩ := RM_slice HO_3.out
      subst eo8
      go_wp2
      go_loopg [3, 5] k1 (fun kq v3 v5 w' => ∃ (zdag : List Int) (zdaf : Int), v5 = .int .i64 zdaf ∧ Aside0 (stowageref03_padded.l1 kq zdag (IntKind.u64.wrap ((IntKind.u64.wrap ((a0.size : Int))) * 8)) zdaf = some r) ∧ Aside0 (kq ≤ k1) ∧ Aside0 (RM 5 w' w.heap.size (fun _ => True) v3 zdag) ∧ Aside0 (Below w.heap.size w w'))
      case atStart => exact ⟨(zdae), (56), (by first | rfl | (simp; done) | (simp [*]; done)), H', ⟨Nat.le_refl _⟩, ⟨by (with_reducible repeat (first | apply RM_alloc | apply RM_drewN | apply RM_drew)); exact HO_3.out⟩, ⟨by repeat (first | (with_reducible first | exact HB.out | apply zdac | apply zdaa | apply zdab) | exact HB.out)⟩⟩
      case round =>
       clear H'
       try clear c2
       try clear c2b0
       try clear c2b1
       try clear c2b2
       try clear p2
       try clear c3
       try clear c7
       try clear c7b0
       try clear c7b1
       try clear p2
       obtain ⟨zdag, zdaf, rfl, HA, HK2, HO_3, HB⟩ := hrel
       cases gk with
       | zero => exact absurd HA.out (by simp [stowageref03_padded.l1])
       | succ k2 =>
        have H := HA.out
        clear HA
        simp only [stowageref03_padded.l1] at H
        by_cases c9 : zdaf ≥ 0
        ·rw [if_pos c9] at H
         have c9b0 : decide (0 ≤ zdaf) = true := decide_eq_true c9
         clear c9
         obtain ⟨ji10, hji10⟩ : ∃ j_ : Int, (IntKind.u64.wrap (zdaf)) = j_ := ⟨_, rfl⟩
         replace H : (if 0 ≤ (ji10) then (if zdag.length < 140737488355328 then (stowageref03_padded.l1 k2 (zdag ++ [(shr .u64 (IntKind.u64.wrap ((IntKind.u64.wrap ((a0.size : Int))) * 8)) (ji10)) % 256]) (IntKind.u64.wrap ((IntKind.u64.wrap ((a0.size : Int))) * 8)) (wrap64 (zdaf - 8))) else (none)) else (none)) = some r := by first | (rw [hji10] at H; exact H) | (simp only [hji10] at H ⊢; exact H)
         by_cases c11 : 0 ≤ (ji10)
         ·rw [if_pos c11] at H
          have c11b0 := eq_true c11
          have c11b1 : decide (0 ≤ (ji10)) = true := decide_eq_true c11
          clear c11
          obtain ⟨ji12, hji12⟩ : ∃ j_ : Int, (shr .u64 (IntKind.u64.wrap ((IntKind.u64.wrap ((a0.size : Int))) * 8)) (ji10)) = j_ := ⟨_, rfl⟩
          replace H : (if zdag.length < 140737488355328 then (stowageref03_padded.l1 k2 (zdag ++ [(ji12) % 256]) (IntKind.u64.wrap ((IntKind.u64.wrap ((a0.size : Int))) * 8)) (wrap64 (zdaf - 8))) else (none)) = some r := by first | (rw [hji12] at H; exact H) | (simp only [hji12] at H ⊢; exact H)
          have hji12_ : ((IntKind.u64.wrap ((IntKind.u64.wrap ((a0.size : Int))) * 8)) / 2 ^ min (ji10).toNat 64) = ji12 := hji12
          have hji12z : (ji10) ≤ 64 → ((IntKind.u64.wrap ((IntKind.u64.wrap ((a0.size : Int))) * 8)) / 2 ^ (ji10).toNat) = ji12 := shr_small hji12
          by_cases c13 : zdag.length < 140737488355328
          ·rw [if_pos c13] at H
           have LMc13 := zdad c13
           clear c13
           obtain ⟨y340, hy340⟩ : ∃ y_ : List Int, y_ = (zdag ++ [(ji12) % 256]) := ⟨_, rfl⟩
           replace H : (stowageref03_padded.l1 k2 y340 (IntKind.u64.wrap ((IntKind.u64.wrap ((a0.size : Int))) * 8)) (wrap64 (zdaf - 8))) = some r := by first | (rw [hy340]; with_reducible exact H) | (have H2_ := (Option.bind_some _ _).symm.trans H; rw [hy340]; with_reducible exact H2_) | (have H2_ := (Option.bind_some _ _).symm.trans H; with_reducible exact H2_) | with_reducible exact H | (rw [hy340]; exact H) | exact H
           have Ny340 := zdad hy340
           clear hy340
           have H' := zdad H
           clear H
           go_wp2_with (first | ((with_reducible refine gate_builtin (b := .append) (xs := #[.tmp 25, .tmp 31]) rfl ?_); at_builtin; refine RM_append (Kd.int .u8) (w0 := w) w.heap.size rfl (.tmp 25) (.tmp 31) 72 5 (.int .u8 0) 1 rfl Tryz.underlying72 info5 rfl (by decide) (by omega) u3 zdag ((ji12) % 256) [.int .u8 ((ji12) % 256)] (fun _ => True) (fun _ => False) rfl rfl ?aP (fun _ hk => hk.elim) ?aF ?aO ?aB ?aS ?aL ?_; (case aP => exact rfl); (case aB => exact (by repeat (first | (with_reducible first | exact HB.out | apply zdac | apply zdaa | apply zdab) | exact HB.out))); (case aF => exact (fun _ _ => trivial)); (case aO => exact (by (with_reducible repeat (first | apply RM_alloc | apply RM_drewN | apply RM_drew)); exact HO_3.out)); (case aS => exact (below_size (by repeat (first | (with_reducible first | exact HB.out | apply zdac | apply zdaa | apply zdab) | exact HB.out)))); (case aL => have := LMc13.out; omega); intro v341 w14 ho hb hg hat; rw [← Ny340.out] at ho; have n0_ := zdad (hb); have n1_ := zdad (ho); clear HB; clear HO_3; have HB := n0_; have HO342 := n1_; clear n0_ n1_; clear ho hb hg hat))
           go_roundg k2
           case measure => have := HK1.out; have := HK2.out; omega
           case rel => exact ⟨(y340), (wrap64 (zdaf - 8)), (by first | rfl | (simp; done) | (simp [*]; done)), H', ⟨by have := HK1.out; have := HK2.out; omega⟩, ⟨by (with_reducible repeat (first | apply RM_alloc | apply RM_drewN | apply RM_drew)); exact HO342.out⟩, ⟨by repeat (first | (with_reducible first | exact HB.out | apply zdac | apply zdaa | apply zdab) | exact HB.out)⟩⟩
          ·rw [if_neg c13] at H
           exact absurd H (by simp)
         ·rw [if_neg c11] at H
          exact absurd H (by simp)
        ·rw [if_neg c9] at H
         have c9b0 : decide (0 ≤ zdaf) = false := decide_eq_false c9
         clear c9
         obtain rfl := Option.some.inj H
         go_wp2
         go_ret
         exact ⟨_, by first | rfl | (simp [errW_none, errW_some] <;> rfl) | (simp [*, errW_none, errW_some] <;> rfl), by (with_reducible repeat (first | apply RM_alloc | apply RM_drewN | apply RM_drew)); exact HO_3.out, by repeat (first | (with_reducible first | exact HB.out | apply zdac | apply zdaa | apply zdab) | exact HB.out)⟩
     ·rw [if_neg c7] at H
      have c7b0 : (((zdae.length : Int) % 64) == 56) = false := beq_eq_false_iff_ne.mpr c7
      have c7b1 : (((zdae.length : Int) % 64) != 56) = true := bne_iff_ne.mpr c7
      by_cases c15 : zdae.length < 140737488355328
      ·rw [if_pos c15] at H
       have LMc15 := zdad c15
       clear c15
       obtain ⟨y337, hy337⟩ : ∃ y_ : List Int, y_ = (zdae ++ [0]) := ⟨_, rfl⟩
       replace H : (stowageref03_padded.l0 k1 a0 y337) = some r := by first | (rw [hy337]; with_reducible exact H) | (have H2_ := (Option.bind_some _ _).symm.trans H; rw [hy337]; with_reducible exact H2_) | (have H2_ := (Option.bind_some _ _).symm.trans H; with_reducible exact H2_) | with_reducible exact H | (rw [hy337]; exact H) | exact H
       have Ny337 := zdad hy337
       clear hy337
       have H' := zdad H
       clear H
       obtain ⟨Ao16, co16, eo16⟩ := RM_slice HO_3.out
       subst eo16
       go_wp2_with (first | ((with_reducible refine gate_builtin (b := .append) (xs := #[.tmp 14, .tmp 15]) rfl ?_); at_builtin; refine RM_append (Kd.int .u8) (w0 := w) w.heap.size rfl (.tmp 14) (.tmp 15) 72 5 (.int .u8 0) 1 rfl Tryz.underlying72 info5 rfl (by decide) (by omega) (.slice Ao16 zdae.length co16) zdae 0 [.int .u8 0] (fun _ => True) (fun _ => False) rfl rfl ?aP (fun _ hk => hk.elim) ?aF ?aO ?aB ?aS ?aL ?_; (case aP => exact rfl); (case aB => exact (by repeat (first | (with_reducible first | exact HB.out | apply zdac | apply zdaa | apply zdab) | exact HB.out))); (case aF => exact (fun _ _ => trivial)); (case aO => exact (by (with_reducible repeat (first | apply RM_alloc | apply RM_drewN | apply RM_drew)); exact HO_3.out)); (case aS => exact (below_size (by repeat (first | (with_reducible first | exact HB.out | apply zdac | apply zdaa | apply zdab) | exact HB.out)))); (case aL => have := LMc15.out; omega); intro v338 w17 ho hb hg hat; rw [← Ny337.out] at ho; have n0_ := zdad (hb); have n1_ := zdad (ho); clear HB; clear HO_3; have HB := n0_; have HO339 := n1_; clear n0_ n1_; clear ho hb hg hat))
       go_roundg k1
       case measure => have := HK1.out; omega
       case rel => exact ⟨(y337), H', ⟨by have := HK1.out; omega⟩, ⟨by (with_reducible repeat (first | apply RM_alloc | apply RM_drewN | apply RM_drew)); exact HO339.out⟩, ⟨by repeat (first | (with_reducible first | exact HB.out | apply zdac | apply zdaa | apply zdab) | exact HB.out)⟩⟩
      ·rw [if_neg c15] at H
       exact absurd H (by simp)
  ·rw [if_neg c3] at H
   exact absurd H (by simp)
 ·rw [if_neg c2] at H
  exact absurd H (by simp)
/-! ### stowageref03_turn: function 97 -/
def stowageref03_turn.f (a0 : Int) (a1 : Int) : Option (Int) := if 0 ≤ a1 then (if 0 ≤ (IntKind.u64.wrap (32 - a1)) then (some (Go.bits .or .u32 (shr .u32 a0 a1) (shl .u32 a0 (IntKind.u64.wrap (32 - a1))))) else (none)) else (none)
set_option maxHeartbeats 8000000 in
set_option maxRecDepth 100000 in
theorem stowageref03_turn.calls (a0 : Int) (a1 : Int) (r : Int) (w : World) (h : stowageref03_turn.f a0 a1 = some r) :
  Calls Tryz.prog 97 #[.int .u32 a0, .int .u64 a1] w fun e w' => e = .returned (.int .u32 r) ∧ Drawn0 w w' := by
 have H : (if 0 ≤ a1 then (if 0 ≤ (IntKind.u64.wrap (32 - a1)) then (some (Go.bits .or .u32 (shr .u32 a0 a1) (shl .u32 a0 (IntKind.u64.wrap (32 - a1))))) else (none)) else (none)) = some r := h
 clear h
 by_cases c3 : 0 ≤ a1
 ·rw [if_pos c3] at H
  have c3b0 := eq_true c3
  have c3b1 : decide (0 ≤ a1) = true := decide_eq_true c3
  clear c3
  obtain ⟨ji4, hji4⟩ : ∃ j_ : Int, (shr .u32 a0 a1) = j_ := ⟨_, rfl⟩
  replace H : (if 0 ≤ (IntKind.u64.wrap (32 - a1)) then (some (Go.bits .or .u32 (ji4) (shl .u32 a0 (IntKind.u64.wrap (32 - a1))))) else (none)) = some r := by first | (rw [hji4] at H; exact H) | (simp only [hji4] at H ⊢; exact H)
  have hji4_ : (a0 / 2 ^ min a1.toNat 32) = ji4 := hji4
  have hji4z : a1 ≤ 32 → (a0 / 2 ^ a1.toNat) = ji4 := shr_small hji4
  obtain ⟨ji5, hji5⟩ : ∃ j_ : Int, (IntKind.u64.wrap (32 - a1)) = j_ := ⟨_, rfl⟩
  replace H : (if 0 ≤ (ji5) then (some (Go.bits .or .u32 (ji4) (shl .u32 a0 (ji5)))) else (none)) = some r := by first | (rw [hji5] at H; exact H) | (simp only [hji5] at H ⊢; exact H)
  by_cases c6 : 0 ≤ (ji5)
  ·rw [if_pos c6] at H
   have c6b0 := eq_true c6
   have c6b1 : decide (0 ≤ (ji5)) = true := decide_eq_true c6
   clear c6
   obtain ⟨ji7, hji7⟩ : ∃ j_ : Int, (shl .u32 a0 (ji5)) = j_ := ⟨_, rfl⟩
   replace H : (some (Go.bits .or .u32 (ji4) (ji7))) = some r := by first | (rw [hji7] at H; exact H) | (simp only [hji7] at H ⊢; exact H)
   have hji7_ : (IntKind.u32.wrap (a0 * 2 ^ min (ji5).toNat 32)) = ji7 := hji7
   have hji7z : (ji5) ≤ 32 → (IntKind.u32.wrap (a0 * 2 ^ (ji5).toNat)) = ji7 := shl_small hji7
   obtain rfl := Option.some.inj H
   go_enter Tryz.func97, Tryz.ntmps97
   go_wp2
   go_ret
   exact ⟨by first | rfl | (simp; done) | (simp only [← hji4, ← hji5, ← hji7] <;> (first | rfl | simp)) | (simp [*]; done), by repeat (first | exact Drawn0.refl _ | apply Drawn0.step)⟩
  ·rw [if_neg c6] at H
   exact absurd H (by simp)
 ·rw [if_neg c3] at H
  exact absurd H (by simp)

def roundsL : List Int := [1116352408, 1899447441, 3049323471, 3921009573, 961987163, 1508970993, 2453635748, 2870763221, 3624381080, 310598401, 607225278, 1426881987, 1925078388, 2162078206, 2614888103, 3248222580, 3835390401, 4022224774, 264347078, 604807628, 770255983, 1249150122, 1555081692, 1996064986, 2554220882, 2821834349, 2952996808, 3210313671, 3336571891, 3584528711, 113926993, 338241895, 666307205, 773529912, 1294757372, 1396182291, 1695183700, 1986661051, 2177026350, 2456956037, 2730485921, 2820302411, 3259730800, 3345764771, 3516065817, 3600352804, 4094571909, 275423344, 430227734, 506948616, 659060556, 883997877, 958139571, 1322822218, 1537002063, 1747873779, 1955562222, 2024104815, 2227730452, 2361852424, 2428436474, 2756734187, 3204031479, 3329325298]
def zeros124 : Array Value := Array.replicate 64 (.int .u32 0)
theorem zero56 : (Tryz.prog.info? 124).map (·.zero) = some (some (.agg zeros124)) := by kernel_rfl
theorem run_alloc124 (f : Operand → Value) (W : World) (o : Oper) (ho : o.op = .alloc 124) : (execOp f o).run Tryz.prog W = .ok (.value (.pointer (some ⟨W.heap.size, 0, none⟩))) (W.alloc (.cells zeros124 124 (0, 0))) := by
 obtain ⟨i, hi, hz⟩ := Option.map_eq_some_iff.1 zero56
 unfold execOp
 simp [ho, Instr.alloc, zeroValue, typeInfo, hi, hz, Value.cells, newVar, go_sem]
def roundsV : Array Value := (roundsL.map (Value.int .u32)).toArray
theorem roundsV_one : roundsV.all (·.oneCell') = true := by kernel_rfl
theorem roundsV_at (n : Nat) (hn : n < 64) : roundsV[n]? = some (.int .u32 (roundsL.getD n 0)) := by
 have : n < roundsL.length := hn
 simp [roundsV, List.getD, this]
theorem wpList_build_to {P : Program} {ops : Array Oper} {rest : List Oper} {o : Oper} {a : Act} {w : World} {Q : Exit → Act → World → Prop} (hg : o.guard = none) (t : TypeId) (parts : Array (Nat × Operand)) (ho : o.op = .build t parts) (cells : Array Value)
  (hf : P.built t (parts.map fun (i, x) => (i, a.eval x)).toList = some cells)
  (h : wpList P ops Q rest (a.put o.dst (.agg cells)) w) : wpList P ops Q (o :: rest) a w := by
 refine wpList_build hg t parts ho (by rw [hf]; rfl) ?_
 rw [hf]
 exact h
theorem below_row {B g : Nat} {w0 w : World} (hb : Below B w0 w) (hBg : B ≤ g) (cs : Array Value) : Below B w0 (w.setRow g cs) := hb.trans ⟨rfl, rfl, rfl, by simp, fun k hk => setRow_other _ _ _ _ (by omega)⟩
structure HaltD (p : Prop) : Prop where mk :: (out : p)
def stowageref03_number.f (a0 : Int) : Option Int := if 0 ≤ a0 ∧ a0 < 64 then some (roundsL.getD a0.toNat 0) else none
theorem stowageref03_number.calls (a0 : Int) (r : Int) (w : World) (h : stowageref03_number.f a0 = some r) :
  Calls Tryz.prog 98 #[.int .i64 a0] w fun e w' => e = .returned (.int .u32 r) ∧ Below w.heap.size w w' := by
 unfold stowageref03_number.f at h
 by_cases hc : 0 ≤ a0 ∧ a0 < 64
 ·rw [if_pos hc] at h
  obtain rfl := Option.some.inj h
  clear h
  obtain ⟨n, rfl⟩ := Int.eq_ofNat_of_zero_le hc.1
  have hn : n < 64 := by omega
  have hu56 := Tryz.underlying124
  go_enter Tryz.func98, Tryz.ntmps98
  go_wp2_with (first | ((with_reducible refine gate_dst (N := 4) rfl ?_); refine wpList_build_to rfl 124 _ rfl roundsV (by as_aux_lemma => kernel_rfl) ?_) | ((with_reducible refine gate_dst (N := 3) rfl ?_); refine box_event rfl (N := 3) rfl (cs := zeros124) (t := 124) (run_alloc124 _ _ _ rfl) ?_; intro g hg W1 hbk hB1; subst hg) | ((with_reducible refine gate_store (t := 124) (p := 3) (v := .tmp 4) rfl ?_); refine HaltD.out ?_))
  refine ⟨?_⟩
  refine wpList_store_row (P := Tryz.prog) rfl 124 (.tmp 3) (.tmp 4) rfl w.heap.size roundsV ?h1 ?h2 124 _ hbk ?h3 ?h4 roundsV_one ?_
  case h1 => rfl
  case h2 => rfl
  case h3 => kernel_rfl
  case h4 => kernel_rfl
  have hc2 := (cell_setRow_same _ _ n _ roundsV _ _ hbk).trans (roundsV_at n hn)
  have hB := below_row hB1 (Nat.le_refl _) roundsV
  generalize (W1.setRow w.heap.size roundsV) = W at hc2 hB ⊢
  generalize hz : roundsL.getD n 0 = z at hc2
  go_wp2
  go_ret
  exact ⟨by rw [Int.toNat_natCast, hz]; rfl, hB⟩
 ·rw [if_neg hc] at h
  exact absurd h (by simp)
end Go.Proofs.YtpgbkeaaklglkaaGreatDoor.Q