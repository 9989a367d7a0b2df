

/- Functions of the given program, printed: frames. -/
import Derived.Test.YtpgbkeaaklglkaaGreatDoorQx0
namespace Go.Proofs.YtpgbkeaaklglkaaGreatDoor.Q
open Go.RowKit Go.Proofs.YtpgbkeaaklglkaaGreatDoorW.PrintWords Go.Proofs.YtpgbkeaaklglkaaGreatDoorW.PrintLast Go.Proofs.YtpgbkeaaklglkaaGreatDoorW.PrintMore
attribute [local go_sem] max2_int min2_int max_two min_two max_three min_three max_four min_four   -- for this text's walks alone
set_option linter.unusedVariables false
set_option linter.unusedSimpArgs false
attribute [local go_sem] xor_ones_u8 xor_ones_u16 xor_ones_u32 xor_ones_u64 cell_twice frozen_twice
-- NOT PRINTED: function 107 (slices_partitionOrdered_string)

-- NOT PRINTED: function 93 (slices_pdqsortOrdered_string)

-- NOT PRINTED: function 76 (slices_Sort_string_string)

-- NOT PRINTED: function 59 (slices_Sorted_string)

-- NOT PRINTED: function 60 (maps_Keys_map_string_string_string_string)

-- NOT PRINTED: function 33 (disk_Disk_Names)
abbrev zcaa := @pw_below_drewN
abbrev zcab := @below_drew1
abbrev zcac := @below_alloc
abbrev zcad := @List.map_toArray
abbrev zcae := @List.map_cons
abbrev zcaf := @List.map_nil
abbrev zcag := @Aside0.mk
abbrev zcah := @Option.bind_eq_some_iff
/-! ### octet_ReadWide: function 79 -/
mutual
def octet_ReadWide.j0 : Nat → ByteArray → Int → Int → Bool → Option (Int × Int × Int)
 | 0, _, _, _, _ => none
 | k + 1, x0, x1, x2, x26 => if x26 = true then (some (0, 0, 1)) else (if (wrap64 ((x0.size : Int) - x1)) < x2 then (some (0, 0, 5)) else (octet_ReadWide.l0 k x0 x1 x2 0 x2 0))
def octet_ReadWide.l0 : Nat → ByteArray → Int → Int → Int → Int → Int → Option (Int × Int × Int)
 | 0, _, _, _, _, _, _ => none
 | k + 1, x0, x1, x2, x9, x33, x34 => if x34 < x33 then (if 0 ≤ (wrap64 (x1 + x34)) then (if (wrap64 (x1 + x34)) < (x0.size : Int) then (octet_ReadWide.l0 k x0 x1 x2 (Go.bits .or .u64 (IntKind.u64.wrap (x9 * 256)) (IntKind.u64.wrap (bt x0 (wrap64 (x1 + x34))))) x33 (wrap64 (x34 + 1))) else (none)) else (none)) else (some (x9, wrap64 (x1 + x2), 0))
end
def octet_ReadWide.f (k : Nat) (a0 : ByteArray) (a1 : Int) (a2 : Int) : Option (Int × Int × Int) := if a2 < 1 then (octet_ReadWide.j0 k a0 a1 a2 true) else (if a2 > 8 then (octet_ReadWide.j0 k a0 a1 a2 true) else (if a1 < 0 then (octet_ReadWide.j0 k a0 a1 a2 true) else (octet_ReadWide.j0 k a0 a1 a2 (decide (a1 > (a0.size : Int))))))
theorem octet_ReadWide.mono_l : ∀ k, (∀ y0 y1 y2 y3, LeO (octet_ReadWide.j0 k y0 y1 y2 y3) (octet_ReadWide.j0 (k + 1) y0 y1 y2 y3)) ∧ (∀ y0 y1 y2 y3 y4 y5, LeO (octet_ReadWide.l0 k y0 y1 y2 y3 y4 y5) (octet_ReadWide.l0 (k + 1) y0 y1 y2 y3 y4 y5))
 | 0 => ⟨fun _ _ _ _ r h => by simp [octet_ReadWide.j0] at h, fun _ _ _ _ _ _ r h => by simp [octet_ReadWide.l0] at h⟩
 | k + 1 => by
  obtain ⟨ih0, ih1⟩ := octet_ReadWide.mono_l k
  refine ⟨?_, ?_⟩
  ·intro y0 y1 y2 y3
   unfold octet_ReadWide.j0
   repeat' first
   | (with_reducible exact ih0 _ _ _ _)
   | (with_reducible exact ih1 _ _ _ _ _ _)
   | (with_reducible exact LeO.refl _)
   | (with_reducible exact LeO.none _)
   | (with_reducible refine LeO.ite ?_ ?_)
   | (with_reducible refine LeO.bind ?_ (fun _ => ?_))
   | exact ih0 _ _ _ _
   | exact ih1 _ _ _ _ _ _
   | exact LeO.none _
   | refine LeO.ite ?_ ?_
   | refine LeO.bind ?_ (fun _ => ?_)
  ·intro y0 y1 y2 y3 y4 y5
   unfold octet_ReadWide.l0
   repeat' first
   | (with_reducible exact ih0 _ _ _ _)
   | (with_reducible exact ih1 _ _ _ _ _ _)
   | (with_reducible exact LeO.refl _)
   | (with_reducible exact LeO.none _)
   | (with_reducible refine LeO.ite ?_ ?_)
   | (with_reducible refine LeO.bind ?_ (fun _ => ?_))
   | exact ih0 _ _ _ _
   | exact ih1 _ _ _ _ _ _
   | exact LeO.none _
   | refine LeO.ite ?_ ?_
   | refine LeO.bind ?_ (fun _ => ?_)
theorem octet_ReadWide.mono : ∀ a0 a1 a2 k, LeO (octet_ReadWide.f k a0 a1 a2) (octet_ReadWide.f (k + 1) a0 a1 a2) := by
 intro a0 a1 a2 k
 obtain ⟨ih0, ih1⟩ := octet_ReadWide.mono_l k
 unfold octet_ReadWide.f
 repeat' first
   | (with_reducible exact ih0 _ _ _ _)
   | (with_reducible exact ih1 _ _ _ _ _ _)
   | (with_reducible exact LeO.refl _)
   | (with_reducible exact LeO.none _)
   | (with_reducible refine LeO.ite ?_ ?_)
   | (with_reducible refine LeO.bind ?_ (fun _ => ?_))
   | exact ih0 _ _ _ _
   | exact ih1 _ _ _ _ _ _
   | exact LeO.none _
   | refine LeO.ite ?_ ?_
   | refine LeO.bind ?_ (fun _ => ?_)
set_option maxHeartbeats 8000000 in
set_option maxRecDepth 100000 in
theorem octet_ReadWide.calls (k : Nat) (a0 : ByteArray) (a1 : Int) (a2 : Int) (r1 : Int) (r2 : Int) (r3 : Int) (w : World) (h : octet_ReadWide.f k a0 a1 a2 = some (r1, r2, r3)) :
  Calls Tryz.prog 79 #[.string a0, .int .i64 a1, .int .i64 a2] w fun e w' => e = .returned (.tuple #[.int .u64 r1, .int .i64 r2, .int .i64 r3]) ∧ Drawn0 w w' := by
 have H : (if a2 < 1 then (octet_ReadWide.j0 k a0 a1 a2 true) else (if a2 > 8 then (octet_ReadWide.j0 k a0 a1 a2 true) else (if a1 < 0 then (octet_ReadWide.j0 k a0 a1 a2 true) else (octet_ReadWide.j0 k a0 a1 a2 (decide (a1 > (a0.size : Int))))))) = some (r1, r2, r3) := h
 clear h
 have HC4 := zcag H
 clear H
 go_enter Tryz.func79, Tryz.ntmps79
 go_upto_region 1 with (fail)
 go_cut [26] (fun v26 wc => ∃ (kq : Nat) (zcaq : Bool), v26 = .bool zcaq ∧ Aside0 (octet_ReadWide.j0 kq a0 a1 a2 zcaq = some (r1, r2, r3)) ∧ Aside0 (kq ≤ k) ∧ Drawn0 w wc)
 case first =>
  have H := HC4.out
  clear HC4
  by_cases c5 : a2 < 1
  ·rw [if_pos c5] at H
   have c5b0 : decide (a2 < 1) = true := decide_eq_true c5
   clear c5
   (first | rw [c5b0] | (simp only [i64_w, i32_w]; rw [c5b0]) | skip)
   have H' := zcag H
   clear H
   go_wp2
   go_meet
   case rel => exact ⟨_, (true), (by first | rfl | (simp; done) | (simp [*]; done)), H', ⟨by first | omega | exact Nat.le_refl _⟩, by repeat (first | exact Drawn0.refl _ | apply Drawn0.step)⟩
  ·rw [if_neg c5] at H
   have c5b0 : decide (a2 < 1) = false := decide_eq_false c5
   clear c5
   (first | rw [c5b0] | (simp only [i64_w, i32_w]; rw [c5b0]) | skip)
   by_cases c6 : a2 > 8
   ·rw [if_pos c6] at H
    have c6b0 : decide (8 < a2) = true := decide_eq_true c6
    clear c6
    have H' := zcag H
    clear H
    go_wp2
    go_meet
    case rel => exact ⟨_, (true), (by first | rfl | (simp; done) | (simp [*]; done)), H', ⟨by first | omega | exact Nat.le_refl _⟩, by repeat (first | exact Drawn0.refl _ | apply Drawn0.step)⟩
   ·rw [if_neg c6] at H
    have c6b0 : decide (8 < a2) = false := decide_eq_false c6
    clear c6
    by_cases c7 : a1 < 0
    ·rw [if_pos c7] at H
     have c7b0 : decide (a1 < 0) = true := decide_eq_true c7
     clear c7
     have H' := zcag H
     clear H
     go_wp2
     go_meet
     case rel => exact ⟨_, (true), (by first | rfl | (simp; done) | (simp [*]; done)), H', ⟨by first | omega | exact Nat.le_refl _⟩, by repeat (first | exact Drawn0.refl _ | apply Drawn0.step)⟩
    ·rw [if_neg c7] at H
     have c7b0 : decide (a1 < 0) = false := decide_eq_false c7
     clear c7
     have H' := zcag H
     clear H
     go_wp2
     go_meet
     case rel => exact ⟨_, (decide (a1 > (a0.size : Int))), (by first | rfl | (simp; done) | (simp [*]; done)), H', ⟨by first | omega | exact Nat.le_refl _⟩, by repeat (first | exact Drawn0.refl _ | apply Drawn0.step)⟩
 case rest =>
  clear HC4
  try clear p2
  try clear c5
  try clear c5b0
  try clear c6
  try clear c6b0
  try clear c7
  try clear c7b0
  obtain ⟨kq, zcaq, rfl, HA, HJ3, ⟨mc3, rfl⟩⟩ := hcut
  cases kq with
  | zero => exact absurd HA.out (by simp [octet_ReadWide.j0])
  | succ kj3 =>
   have H := HA.out
   clear HA
   simp only [octet_ReadWide.j0] at H
   by_cases c8 : zcaq = true
   ·subst c8
    have H1 : (some (0, 0, 1)) = some (r1, r2, r3) := by rw [if_pos rfl] at H; exact H
    clear H
    have H := H1
    clear H1
    simp only [Option.some.injEq, Prod.mk.injEq] at H
    obtain ⟨rfl, rfl, rfl⟩ := H
    go_wp2
    go_ret3
    exact ⟨by first | rfl | (simp; done) | (simp [*]; done), by repeat (first | exact Drawn0.refl _ | apply Drawn0.step)⟩
   ·replace c8 := Bool.eq_false_iff.mpr c8
    subst c8
    have H1 : (if (wrap64 ((a0.size : Int) - a1)) < a2 then (some (0, 0, 5)) else (octet_ReadWide.l0 kj3 a0 a1 a2 0 a2 0)) = some (r1, r2, r3) := by rw [if_neg (show ¬ (false = true) by decide)] at H; exact H
    clear H
    have H := H1
    clear H1
    by_cases c9 : (wrap64 ((a0.size : Int) - a1)) < a2
    ·rw [if_pos c9] at H
     have c9b0 : decide ((wrap64 ((a0.size : Int) - a1)) < a2) = true := decide_eq_true c9
     clear c9
     simp only [Option.some.injEq, Prod.mk.injEq] at H
     obtain ⟨rfl, rfl, rfl⟩ := H
     go_wp2
     go_ret3
     exact ⟨by first | rfl | (simp; done) | (simp [*]; done), by repeat (first | exact Drawn0.refl _ | apply Drawn0.step)⟩
    ·rw [if_neg c9] at H
     have c9b0 : decide ((wrap64 ((a0.size : Int) - a1)) < a2) = false := decide_eq_false c9
     clear c9
     have H' := zcag H
     clear H
     go_wp2
     go_loopg [9, 34] kj3 (fun kq v9 v34 w' => ∃ (zcas : Int) (zcal : Int), v9 = .int .u64 zcas ∧ v34 = .int .i64 zcal ∧ Aside0 (octet_ReadWide.l0 kq a0 a1 a2 zcas a2 zcal = some (r1, r2, r3)) ∧ Aside0 (kq ≤ kj3) ∧ Drawn0 w w')
     case atStart => exact ⟨(0), (0), (by first | rfl | (simp; done) | (simp [*]; done)), (by first | rfl | (simp; done) | (simp [*]; done)), H', ⟨Nat.le_refl _⟩, by repeat (first | exact Drawn0.refl _ | apply Drawn0.step)⟩
     case round =>
      clear H'
      try clear p2
      try clear c3
      try clear c5
      try clear c5b0
      try clear c6
      try clear c6b0
      try clear p6
      try clear c7
      try clear c7b0
      try clear c8
      try clear c9
      try clear c9b0
      try clear p2
      obtain ⟨zcas, zcal, rfl, rfl, HA, HK2, ⟨m2, rfl⟩⟩ := hrel
      cases gk with
      | zero => exact absurd HA.out (by simp [octet_ReadWide.l0])
      | succ k2 =>
       have H := HA.out
       clear HA
       simp only [octet_ReadWide.l0] at H
       by_cases c10 : zcal < a2
       ·rw [if_pos c10] at H
        have c10b0 : decide (zcal < a2) = true := decide_eq_true c10
        clear c10
        obtain ⟨ji11, hji11⟩ : ∃ j_ : Int, (wrap64 (a1 + zcal)) = j_ := ⟨_, rfl⟩
        replace H : (if 0 ≤ (ji11) then (if (ji11) < (a0.size : Int) then (octet_ReadWide.l0 k2 a0 a1 a2 (Go.bits .or .u64 (IntKind.u64.wrap (zcas * 256)) (IntKind.u64.wrap (bt a0 (ji11)))) a2 (wrap64 (zcal + 1))) else (none)) else (none)) = some (r1, r2, r3) := by first | (rw [hji11] at H; exact H) | (simp only [hji11] at H ⊢; exact H)
        have hji11w : (IntKind.i64.wrap (a1 + zcal)) = ji11 := (i64_w _).trans hji11
        by_cases c12 : 0 ≤ (ji11)
        ·rw [if_pos c12] at H
         have c12b0 : decide (0 ≤ (ji11)) = true := decide_eq_true c12
         clear c12
         by_cases c13 : (ji11) < (a0.size : Int)
         ·rw [if_pos c13] at H
          have c13b0 : decide ((ji11) < (a0.size : Int)) = true := decide_eq_true c13
          clear c13
          have H' := zcag H
          clear H
          have p14 : 0 ≤ ((ji11) : Int) := of_decide_eq_true (by first | (with_reducible assumption) | assumption)
          have q14 : (ji11) < (a0.size : Int) := of_decide_eq_true (by first | (with_reducible assumption) | assumption)
          have hx14 := bt_at a0 (ji11)
          replace p14 := eq_true p14
          replace q14 := eq_true q14
          go_wp2
          go_roundg k2
          case measure => have := HJ3.out; have := HK2.out; omega
          case rel => exact ⟨(Go.bits .or .u64 (IntKind.u64.wrap (zcas * 256)) (IntKind.u64.wrap (bt a0 (ji11)))), (wrap64 (zcal + 1)), (by first | rfl | (simp; done) | (simp only [← hji11] <;> (first | rfl | simp)) | (simp [*]; done)), (by first | rfl | (simp; done) | (simp [*]; done)), H', ⟨by have := HJ3.out; have := HK2.out; omega⟩, by repeat (first | exact Drawn0.refl _ | apply Drawn0.step)⟩
         ·rw [if_neg c13] at H
          exact absurd H (by simp)
        ·rw [if_neg c12] at H
         exact absurd H (by simp)
       ·rw [if_neg c10] at H
        have c10b0 : decide (zcal < a2) = false := decide_eq_false c10
        clear c10
        simp only [Option.some.injEq, Prod.mk.injEq] at H
        obtain ⟨rfl, rfl, rfl⟩ := H
        go_wp2
        go_ret3
        exact ⟨by first | rfl | (simp; done) | (simp [*]; done), by repeat (first | exact Drawn0.refl _ | apply Drawn0.step)⟩
/-! ### frame_more: function 80 -/
mutual
def frame_more.l0 : Nat → Int → ByteArray → Int → Int → Option (Int)
 | 0, _, _, _, _ => none
 | k + 1, x0, x1, x7, x8 => if x8 < x7 then (if 0 ≤ x8 then (if x8 < (x1.size : Int) then (frame_more.l1 k (Go.bits .xor .u32 x0 ((bt x1 x8) % 4294967296)) x1 x7 x8 0) else (none)) else (none)) else (some x0)
def frame_more.l1 : Nat → Int → ByteArray → Int → Int → Int → Option (Int)
 | 0, _, _, _, _, _ => none
 | k + 1, x0, x1, x7, x8, x17 => if x17 < 8 then (frame_more.l1 k (Go.bits .xor .u32 (x0 / 2) (Go.bits .and .u32 3988292384 ((-(Go.bits .and .u32 x0 1)) % 4294967296))) x1 x7 x8 (wrap64 (x17 + 1))) else (frame_more.l0 k x0 x1 x7 (wrap64 (x8 + 1)))
end
def frame_more.f (k : Nat) (a0 : Int) (a1 : ByteArray) : Option (Int) := frame_more.l0 k a0 a1 (a1.size : Int) 0
theorem frame_more.mono_l : ∀ k, (∀ y0 y1 y2 y3, LeO (frame_more.l0 k y0 y1 y2 y3) (frame_more.l0 (k + 1) y0 y1 y2 y3)) ∧ (∀ y0 y1 y2 y3 y4, LeO (frame_more.l1 k y0 y1 y2 y3 y4) (frame_more.l1 (k + 1) y0 y1 y2 y3 y4))
 | 0 => ⟨fun _ _ _ _ r h => by simp [frame_more.l0] at h, fun _ _ _ _ _ r h => by simp [frame_more.l1] at h⟩
 | k + 1 => by
  obtain ⟨ih0, ih1⟩ := frame_more.mono_l k
  refine ⟨?_, ?_⟩
  ·intro y0 y1 y2 y3
   unfold frame_more.l0
   repeat' first
   | (with_reducible exact ih0 _ _ _ _)
   | (with_reducible exact ih1 _ _ _ _ _)
   | (with_reducible exact LeO.refl _)
   | (with_reducible exact LeO.none _)
   | (with_reducible refine LeO.ite ?_ ?_)
   | (with_reducible refine LeO.bind ?_ (fun _ => ?_))
   | exact ih0 _ _ _ _
   | exact ih1 _ _ _ _ _
   | exact LeO.none _
   | refine LeO.ite ?_ ?_
   | refine LeO.bind ?_ (fun _ => ?_)
  ·intro y0 y1 y2 y3 y4
   unfold frame_more.l1
   repeat' first
   | (with_reducible exact ih0 _ _ _ _)
   | (with_reducible exact ih1 _ _ _ _ _)
   | (with_reducible exact LeO.refl _)
   | (with_reducible exact LeO.none _)
   | (with_reducible refine LeO.ite ?_ ?_)
   | (with_reducible refine LeO.bind ?_ (fun _ => ?_))
   | exact ih0 _ _ _ _
   | exact ih1 _ _ _ _ _
   | exact LeO.none _
   | refine LeO.ite ?_ ?_
   | refine LeO.bind ?_ (fun _ => ?_)
theorem frame_more.mono : ∀ a0 a1 k, LeO (frame_more.f k a0 a1) (frame_more.f (k + 1) a0 a1) := by
 intro a0 a1 k
 obtain ⟨ih0, ih1⟩ := frame_more.mono_l k
 unfold frame_more.f
 repeat' first
   | (with_reducible exact ih0 _ _ _ _)
   | (with_reducible exact ih1 _ _ _ _ _)
   | (with_reducible exact LeO.refl _)
   | (with_reducible exact LeO.none _)
   | (with_reducible refine LeO.ite ?_ ?_)
   | (with_reducible refine LeO.bind ?_ (fun _ => ?_))
   | exact ih0 _ _ _ _
   | exact ih1 _ _ _ _ _
   | exact LeO.none _
   | refine LeO.ite ?_ ?_
   | refine LeO.bind ?_ (fun _ => ?_)
set_option maxHeartbeats 8000000 in
set_option maxRecDepth 100000 in
theorem frame_more.calls (k : Nat) (a0 : Int) (a1 : ByteArray) (r : Int) (w : World) (h : frame_more.f k a0 a1 = some r) :
  Calls Tryz.prog 80 #[.int .u32 a0, .string a1] w fun e w' => e = .returned (.int .u32 r) ∧ Drawn0 w w' := by
 have H : (frame_more.l0 k a0 a1 (a1.size : Int) 0) = some r := h
 clear h
 have H' := zcag H
 clear H
 go_enter Tryz.func80, Tryz.ntmps80
 go_wp2
 go_loopg [0, 8] k (fun kq v0 v8 w' => ∃ (zcat : Int) (zcaj : Int), v0 = .int .u32 zcat ∧ v8 = .int .i64 zcaj ∧ Aside0 (frame_more.l0 kq zcat a1 (a1.size : Int) zcaj = some r) ∧ Aside0 (kq ≤ k) ∧ Drawn0 w w')
 case atStart => exact ⟨(a0), (0), (by first | rfl | (simp; done) | (simp [*]; done)), (by first | rfl | (simp; done) | (simp [*]; done)), H', ⟨Nat.le_refl _⟩, by repeat (first | exact Drawn0.refl _ | apply Drawn0.step)⟩
 case round =>
  clear H'
  try clear p2
  obtain ⟨zcat, zcaj, rfl, rfl, HA, HK1, ⟨m1, rfl⟩⟩ := hrel
  cases gk with
  | zero => exact absurd HA.out (by simp [frame_more.l0])
  | succ k1 =>
   have H := HA.out
   clear HA
   simp only [frame_more.l0] at H
   by_cases c3 : zcaj < (a1.size : Int)
   ·rw [if_pos c3] at H
    have c3b0 : decide (zcaj < (a1.size : Int)) = true := decide_eq_true c3
    clear c3
    by_cases c4 : 0 ≤ zcaj
    ·rw [if_pos c4] at H
     have c4b0 : decide (0 ≤ zcaj) = true := decide_eq_true c4
     clear c4
     by_cases c5 : zcaj < (a1.size : Int)
     ·rw [if_pos c5] at H
      have c5b0 : decide (zcaj < (a1.size : Int)) = true := decide_eq_true c5
      clear c5
      have H' := zcag H
      clear H
      have p6 : 0 ≤ (zcaj : Int) := of_decide_eq_true (by first | (with_reducible assumption) | assumption)
      have q6 : zcaj < (a1.size : Int) := of_decide_eq_true (by first | (with_reducible assumption) | assumption)
      have hx6 := bt_at a1 zcaj
      replace p6 := eq_true p6
      replace q6 := eq_true q6
      go_wp2
      go_loopg [0, 17] k1 (fun kq v0 v17 w' => ∃ (zcap : Int) (zcan : Int), v0 = .int .u32 zcap ∧ v17 = .int .i64 zcan ∧ Aside0 (frame_more.l1 kq zcap a1 (a1.size : Int) zcaj zcan = some r) ∧ Aside0 (kq ≤ k1) ∧ Drawn0 w w')
      case atStart => exact ⟨(Go.bits .xor .u32 zcat ((bt a1 zcaj) % 4294967296)), (0), (by first | rfl | (simp; done) | (simp [*]; done)), (by first | rfl | (simp; done) | (simp [*]; done)), H', ⟨Nat.le_refl _⟩, by repeat (first | exact Drawn0.refl _ | apply Drawn0.step)⟩
      case round =>
       clear H'
       try clear p2
       try clear c3
       try clear c3b0
       try clear c4
       try clear c4b0
       try clear c5
       try clear c5b0
       try clear p6
       try clear q6
       try clear hx6
       try clear p2
       try clear p6
       try clear q6
       obtain ⟨zcap, zcan, rfl, rfl, HA, HK2, ⟨m2, rfl⟩⟩ := hrel
       cases gk with
       | zero => exact absurd HA.out (by simp [frame_more.l1])
       | succ k2 =>
        have H := HA.out
        clear HA
        simp only [frame_more.l1] at H
        by_cases c7 : zcan < 8
        ·rw [if_pos c7] at H
         have c7b0 : decide (zcan < 8) = true := decide_eq_true c7
         clear c7
         have H' := zcag H
         clear H
         go_wp2
         go_roundg k2
         case measure => have := HK1.out; have := HK2.out; omega
         case rel => exact ⟨(Go.bits .xor .u32 (zcap / 2) (Go.bits .and .u32 3988292384 ((-(Go.bits .and .u32 zcap 1)) % 4294967296))), (wrap64 (zcan + 1)), (by first | rfl | (simp; done) | (simp [*]; done)), (by first | rfl | (simp; done) | (simp [*]; done)), H', ⟨by have := HK1.out; have := HK2.out; omega⟩, by repeat (first | exact Drawn0.refl _ | apply Drawn0.step)⟩
        ·rw [if_neg c7] at H
         have c7b0 : decide (zcan < 8) = false := decide_eq_false c7
         clear c7
         have H' := zcag H
         clear H
         go_wp2
         go_roundg k2
         case measure => have := HK1.out; have := HK2.out; omega
         case rel => exact ⟨(zcap), (wrap64 (zcaj + 1)), (by first | rfl | (simp; done) | (simp [*]; done)), (by first | rfl | (simp; done) | (simp [*]; done)), H', ⟨by have := HK1.out; have := HK2.out; omega⟩, by repeat (first | exact Drawn0.refl _ | apply Drawn0.step)⟩
     ·rw [if_neg c5] at H
      exact absurd H (by simp)
    ·rw [if_neg c4] at H
     exact absurd H (by simp)
   ·rw [if_neg c3] at H
    have c3b0 : decide (zcaj < (a1.size : Int)) = false := decide_eq_false c3
    clear c3
    obtain rfl := Option.some.inj H
    go_wp2
    go_ret
    exact ⟨by first | rfl | (simp; done) | (simp [*]; done), by repeat (first | exact Drawn0.refl _ | apply Drawn0.step)⟩
/-! ### frame_Unframe: function 62 -/
def frame_Unframe.f (k : Nat) (a0 : ByteArray) (a1 : Int) : Option (ByteArray × Int × Int) := (octet_ReadWide.f k a0 a1 4).bind fun bt224 => (if bt224.2.2 = 0 then (if bt224.1 > 262144 then (some ((⟨#[]⟩ : ByteArray), 0, 2)) else (if (wrap64 ((a0.size : Int) - bt224.2.1)) < (wrap64 (4 + (wrap64 (bt224.1)))) then (some ((⟨#[]⟩ : ByteArray), 0, 5)) else ((octet_ReadWide.f k a0 bt224.2.1 4).bind fun bt227 => (if 0 ≤ bt227.2.1 then (if bt227.2.1 ≤ (wrap64 (bt227.2.1 + (wrap64 (bt224.1)))) then (if (wrap64 (bt227.2.1 + (wrap64 (bt224.1)))) ≤ (a0.size : Int) then (if 0 ≤ a1 then (if a1 ≤ bt224.2.1 then (if bt224.2.1 ≤ (a0.size : Int) then ((frame_more.f k 4294967295 (a0.extract (a1 : Int).toNat (bt224.2.1 : Int).toNat)).bind fun t230 => ((frame_more.f k t230 (a0.extract (bt227.2.1 : Int).toNat ((wrap64 (bt227.2.1 + (wrap64 (bt224.1)))) : Int).toNat)).bind fun t231 => (if ((bt227.1) % 4294967296) = (Go.bits .xor .u32 4294967295 t231) then (some (a0.extract (bt227.2.1 : Int).toNat ((wrap64 (bt227.2.1 + (wrap64 (bt224.1)))) : Int).toNat, wrap64 (bt227.2.1 + (wrap64 (bt224.1))), 0)) else (some ((⟨#[]⟩ : ByteArray), 0, 10))))) else (none)) else (none)) else (none)) else (none)) else (none)) else (none))))) else (some ((⟨#[]⟩ : ByteArray), 0, bt224.2.2)))
theorem frame_Unframe.mono : ∀ a0 a1 k, LeO (frame_Unframe.f k a0 a1) (frame_Unframe.f (k + 1) a0 a1) := by
 intro a0 a1 k
 unfold frame_Unframe.f
 repeat' first
   | (with_reducible exact frame_more.mono _ _ _)
   | (with_reducible exact octet_ReadWide.mono _ _ _ _)
   | (with_reducible exact LeO.refl _)
   | (with_reducible exact LeO.none _)
   | (with_reducible refine LeO.ite ?_ ?_)
   | (with_reducible refine LeO.bind ?_ (fun _ => ?_))
   | exact frame_more.mono _ _ _
   | exact octet_ReadWide.mono _ _ _ _
   | exact LeO.none _
   | refine LeO.ite ?_ ?_
   | refine LeO.bind ?_ (fun _ => ?_)
set_option maxHeartbeats 8000000 in
set_option maxRecDepth 100000 in
theorem frame_Unframe.calls (k : Nat) (a0 : ByteArray) (a1 : Int) (r1 : ByteArray) (r2 : Int) (r3 : Int) (w : World) (h : frame_Unframe.f k a0 a1 = some (r1, r2, r3)) :
  Calls Tryz.prog 62 #[.string a0, .int .i64 a1] w fun e w' => e = .returned (.tuple #[.string r1, .int .i64 r2, .int .i64 r3]) ∧ Drawn0 w w' := by
 have H : ((octet_ReadWide.f k a0 a1 4).bind fun bt224 => (if bt224.2.2 = 0 then (if bt224.1 > 262144 then (some ((⟨#[]⟩ : ByteArray), 0, 2)) else (if (wrap64 ((a0.size : Int) - bt224.2.1)) < (wrap64 (4 + (wrap64 (bt224.1)))) then (some ((⟨#[]⟩ : ByteArray), 0, 5)) else ((octet_ReadWide.f k a0 bt224.2.1 4).bind fun bt227 => (if 0 ≤ bt227.2.1 then (if bt227.2.1 ≤ (wrap64 (bt227.2.1 + (wrap64 (bt224.1)))) then (if (wrap64 (bt227.2.1 + (wrap64 (bt224.1)))) ≤ (a0.size : Int) then (if 0 ≤ a1 then (if a1 ≤ bt224.2.1 then (if bt224.2.1 ≤ (a0.size : Int) then ((frame_more.f k 4294967295 (a0.extract (a1 : Int).toNat (bt224.2.1 : Int).toNat)).bind fun t230 => ((frame_more.f k t230 (a0.extract (bt227.2.1 : Int).toNat ((wrap64 (bt227.2.1 + (wrap64 (bt224.1)))) : Int).toNat)).bind fun t231 => (if ((bt227.1) % 4294967296) = (Go.bits .xor .u32 4294967295 t231) then (some (a0.extract (bt227.2.1 : Int).toNat ((wrap64 (bt227.2.1 + (wrap64 (bt224.1)))) : Int).toNat, wrap64 (bt227.2.1 + (wrap64 (bt224.1))), 0)) else (some ((⟨#[]⟩ : ByteArray), 0, 10))))) else (none)) else (none)) else (none)) else (none)) else (none)) else (none))))) else (some ((⟨#[]⟩ : ByteArray), 0, bt224.2.2)))) = some (r1, r2, r3) := h
 clear h
 replace H := Option.bind_eq_some_iff.mp H
 obtain ⟨⟨t224, t225, t226⟩, A30, H⟩ := H
 replace H : (if t226 = 0 then (if t224 > 262144 then (some ((⟨#[]⟩ : ByteArray), 0, 2)) else (if (wrap64 ((a0.size : Int) - t225)) < (wrap64 (4 + (wrap64 (t224)))) then (some ((⟨#[]⟩ : ByteArray), 0, 5)) else ((octet_ReadWide.f k a0 t225 4).bind fun bt227 => (if 0 ≤ bt227.2.1 then (if bt227.2.1 ≤ (wrap64 (bt227.2.1 + (wrap64 (t224)))) then (if (wrap64 (bt227.2.1 + (wrap64 (t224)))) ≤ (a0.size : Int) then (if 0 ≤ a1 then (if a1 ≤ t225 then (if t225 ≤ (a0.size : Int) then ((frame_more.f k 4294967295 (a0.extract (a1 : Int).toNat (t225 : Int).toNat)).bind fun t230 => ((frame_more.f k t230 (a0.extract (bt227.2.1 : Int).toNat ((wrap64 (bt227.2.1 + (wrap64 (t224)))) : Int).toNat)).bind fun t231 => (if ((bt227.1) % 4294967296) = (Go.bits .xor .u32 4294967295 t231) then (some (a0.extract (bt227.2.1 : Int).toNat ((wrap64 (bt227.2.1 + (wrap64 (t224)))) : Int).toNat, wrap64 (bt227.2.1 + (wrap64 (t224))), 0)) else (some ((⟨#[]⟩ : ByteArray), 0, 10))))) else (none)) else (none)) else (none)) else (none)) else (none)) else (none))))) else (some ((⟨#[]⟩ : ByteArray), 0, t226))) = some (r1, r2, r3) := H
 have A3 := zcag A30
 clear A30
 by_cases c4 : t226 = 0
 ·rw [if_pos c4] at H
  have c4b0 : (t226 == 0) = true := beq_iff_eq.mpr c4
  have c4b1 : (t226 != 0) = false := bne_eq_false_iff_eq.mpr c4
  clear c4
  by_cases c5 : t224 > 262144
  ·rw [if_pos c5] at H
   have c5b0 : decide (262144 < t224) = true := decide_eq_true c5
   clear c5
   simp only [Option.some.injEq, Prod.mk.injEq] at H
   obtain ⟨rfl, rfl, rfl⟩ := H
   go_enter Tryz.func62, Tryz.ntmps62
   go_wp2_with (first | ((with_reducible refine gate_callee (f := 79) rfl ?_); refine goesL_ (some 17) rfl rfl Tryz.func79 (by kernel_rfl) rfl #[.string a0, .int .i64 a1, .int .i64 4] rfl (by (try simp only [zcad, zcae, zcaf]); first | done | rfl) ?_; (with_reducible refine (octet_ReadWide.calls k a0 a1 4 t224 t225 t226 _ A3.out).mono ?_); rintro e w' ⟨rfl, ⟨nd, rfl⟩⟩; refine ⟨_, rfl, ?_⟩))
   go_ret3
   exact ⟨by first | rfl | (simp; done) | (simp [*]; done), by repeat (first | exact Drawn0.refl _ | apply Drawn0.step)⟩
  ·rw [if_neg c5] at H
   have c5b0 : decide (262144 < t224) = false := decide_eq_false c5
   clear c5
   by_cases c6 : (wrap64 ((a0.size : Int) - t225)) < (wrap64 (4 + (wrap64 (t224))))
   ·rw [if_pos c6] at H
    have c6b0 : decide ((wrap64 ((a0.size : Int) - t225)) < (wrap64 (4 + (wrap64 (t224))))) = true := decide_eq_true c6
    clear c6
    simp only [Option.some.injEq, Prod.mk.injEq] at H
    obtain ⟨rfl, rfl, rfl⟩ := H
    go_enter Tryz.func62, Tryz.ntmps62
    go_wp2_with (first | ((with_reducible refine gate_callee (f := 79) rfl ?_); refine goesL_ (some 17) rfl rfl Tryz.func79 (by kernel_rfl) rfl #[.string a0, .int .i64 a1, .int .i64 4] rfl (by (try simp only [zcad, zcae, zcaf]); first | done | rfl) ?_; (with_reducible refine (octet_ReadWide.calls k a0 a1 4 t224 t225 t226 _ A3.out).mono ?_); rintro e w' ⟨rfl, ⟨nd, rfl⟩⟩; refine ⟨_, rfl, ?_⟩))
    go_ret3
    exact ⟨by first | rfl | (simp; done) | (simp [*]; done), by repeat (first | exact Drawn0.refl _ | apply Drawn0.step)⟩
   ·rw [if_neg c6] at H
    have c6b0 : decide ((wrap64 ((a0.size : Int) - t225)) < (wrap64 (4 + (wrap64 (t224))))) = false := decide_eq_false c6
    clear c6
    replace H := Option.bind_eq_some_iff.mp H
    obtain ⟨⟨t227, t228, t229⟩, A70, H⟩ := H
    replace H : (if 0 ≤ t228 then (if t228 ≤ (wrap64 (t228 + (wrap64 (t224)))) then (if (wrap64 (t228 + (wrap64 (t224)))) ≤ (a0.size : Int) then (if 0 ≤ a1 then (if a1 ≤ t225 then (if t225 ≤ (a0.size : Int) then ((frame_more.f k 4294967295 (a0.extract (a1 : Int).toNat (t225 : Int).toNat)).bind fun t230 => ((frame_more.f k t230 (a0.extract (t228 : Int).toNat ((wrap64 (t228 + (wrap64 (t224)))) : Int).toNat)).bind fun t231 => (if ((t227) % 4294967296) = (Go.bits .xor .u32 4294967295 t231) then (some (a0.extract (t228 : Int).toNat ((wrap64 (t228 + (wrap64 (t224)))) : Int).toNat, wrap64 (t228 + (wrap64 (t224))), 0)) else (some ((⟨#[]⟩ : ByteArray), 0, 10))))) else (none)) else (none)) else (none)) else (none)) else (none)) else (none)) = some (r1, r2, r3) := H
    have A7 := zcag A70
    clear A70
    by_cases c8 : 0 ≤ t228
    ·rw [if_pos c8] at H
     have c8b0 := eq_true c8
     have c8b1 : decide (0 ≤ t228) = true := decide_eq_true c8
     clear c8
     by_cases c9 : t228 ≤ (wrap64 (t228 + (wrap64 (t224))))
     ·rw [if_pos c9] at H
      have c9b0 := eq_true c9
      have c9b1 : decide (t228 ≤ (wrap64 (t228 + (wrap64 (t224))))) = true := decide_eq_true c9
      by_cases c10 : (wrap64 (t228 + (wrap64 (t224)))) ≤ (a0.size : Int)
      ·rw [if_pos c10] at H
       have c10b0 := eq_true c10
       have c10b1 : decide ((wrap64 (t228 + (wrap64 (t224)))) ≤ (a0.size : Int)) = true := decide_eq_true c10
       by_cases c11 : 0 ≤ a1
       ·rw [if_pos c11] at H
        have c11b0 := eq_true c11
        have c11b1 : decide (0 ≤ a1) = true := decide_eq_true c11
        clear c11
        by_cases c12 : a1 ≤ t225
        ·rw [if_pos c12] at H
         have c12b0 := eq_true c12
         have c12b1 : decide (a1 ≤ t225) = true := decide_eq_true c12
         clear c12
         by_cases c13 : t225 ≤ (a0.size : Int)
         ·rw [if_pos c13] at H
          have c13b0 := eq_true c13
          have c13b1 : decide (t225 ≤ (a0.size : Int)) = true := decide_eq_true c13
          clear c13
          replace H := Option.bind_eq_some_iff.mp H
          obtain ⟨t230, A140, H⟩ := H
          replace H : ((frame_more.f k t230 (a0.extract (t228 : Int).toNat ((wrap64 (t228 + (wrap64 (t224)))) : Int).toNat)).bind fun t231 => (if ((t227) % 4294967296) = (Go.bits .xor .u32 4294967295 t231) then (some (a0.extract (t228 : Int).toNat ((wrap64 (t228 + (wrap64 (t224)))) : Int).toNat, wrap64 (t228 + (wrap64 (t224))), 0)) else (some ((⟨#[]⟩ : ByteArray), 0, 10)))) = some (r1, r2, r3) := H
          have A14 := zcag A140
          clear A140
          replace H := Option.bind_eq_some_iff.mp H
          obtain ⟨t231, A150, H⟩ := H
          replace H : (if ((t227) % 4294967296) = (Go.bits .xor .u32 4294967295 t231) then (some (a0.extract (t228 : Int).toNat ((wrap64 (t228 + (wrap64 (t224)))) : Int).toNat, wrap64 (t228 + (wrap64 (t224))), 0)) else (some ((⟨#[]⟩ : ByteArray), 0, 10))) = some (r1, r2, r3) := H
          have A15 := zcag A150
          clear A150
          by_cases c16 : ((t227) % 4294967296) = (Go.bits .xor .u32 4294967295 t231)
          ·rw [if_pos c16] at H
           have c16b0 : (((t227) % 4294967296) == (Go.bits .xor .u32 4294967295 t231)) = true := beq_iff_eq.mpr c16
           have c16b1 : (((t227) % 4294967296) != (Go.bits .xor .u32 4294967295 t231)) = false := bne_eq_false_iff_eq.mpr c16
           clear c16
           simp only [Option.some.injEq, Prod.mk.injEq] at H
           obtain ⟨rfl, rfl, rfl⟩ := H
           go_enter Tryz.func62, Tryz.ntmps62
           go_wp2_with (first | ((with_reducible refine gate_callee (f := 79) rfl ?_); refine goesL_ (some 17) rfl rfl Tryz.func79 (by kernel_rfl) rfl #[.string a0, .int .i64 a1, .int .i64 4] rfl (by (try simp only [zcad, zcae, zcaf]); first | done | rfl) ?_; (with_reducible refine (octet_ReadWide.calls k a0 a1 4 t224 t225 t226 _ A3.out).mono ?_); rintro e w' ⟨rfl, ⟨nd, rfl⟩⟩; refine ⟨_, rfl, ?_⟩) | ((with_reducible refine gate_callee (f := 79) rfl ?_); refine goesL_ (some 40) rfl rfl Tryz.func79 (by kernel_rfl) rfl #[.string a0, .int .i64 t225, .int .i64 4] rfl (by (try simp only [zcad, zcae, zcaf]); first | done | rfl) ?_; (with_reducible refine (octet_ReadWide.calls k a0 t225 4 t227 t228 t229 _ A7.out).mono ?_); rintro e w' ⟨rfl, ⟨nd, rfl⟩⟩; refine ⟨_, rfl, ?_⟩) | ((with_reducible refine gate_callee (f := 80) rfl ?_); refine goesL_ (some 57) rfl rfl Tryz.func80 (by kernel_rfl) rfl #[.int .u32 4294967295, .string (a0.extract (a1 : Int).toNat (t225 : Int).toNat)] rfl (by (try simp only [zcad, zcae, zcaf]); first | done | rfl) ?_; (with_reducible refine (frame_more.calls k 4294967295 (a0.extract (a1 : Int).toNat (t225 : Int).toNat) t230 _ A14.out).mono ?_); rintro e w' ⟨rfl, ⟨nd, rfl⟩⟩; refine ⟨_, rfl, ?_⟩) | ((with_reducible refine gate_callee (f := 80) rfl ?_); refine goesL_ (some 59) rfl rfl Tryz.func80 (by kernel_rfl) rfl #[.int .u32 t230, .string (a0.extract (t228 : Int).toNat ((wrap64 (t228 + (wrap64 (t224)))) : Int).toNat)] rfl (by (try simp only [zcad, zcae, zcaf]); first | done | rfl) ?_; (with_reducible refine (frame_more.calls k t230 (a0.extract (t228 : Int).toNat ((wrap64 (t228 + (wrap64 (t224)))) : Int).toNat) t231 _ A15.out).mono ?_); rintro e w' ⟨rfl, ⟨nd, rfl⟩⟩; refine ⟨_, rfl, ?_⟩))
           go_ret3
           exact ⟨by first | rfl | (simp; done) | (simp [*]; done), by repeat (first | exact Drawn0.refl _ | apply Drawn0.step)⟩
          ·rw [if_neg c16] at H
           have c16b0 : (((t227) % 4294967296) == (Go.bits .xor .u32 4294967295 t231)) = false := beq_eq_false_iff_ne.mpr c16
           have c16b1 : (((t227) % 4294967296) != (Go.bits .xor .u32 4294967295 t231)) = true := bne_iff_ne.mpr c16
           simp only [Option.some.injEq, Prod.mk.injEq] at H
           obtain ⟨rfl, rfl, rfl⟩ := H
           go_enter Tryz.func62, Tryz.ntmps62
           go_wp2_with (first | ((with_reducible refine gate_callee (f := 79) rfl ?_); refine goesL_ (some 17) rfl rfl Tryz.func79 (by kernel_rfl) rfl #[.string a0, .int .i64 a1, .int .i64 4] rfl (by (try simp only [zcad, zcae, zcaf]); first | done | rfl) ?_; (with_reducible refine (octet_ReadWide.calls k a0 a1 4 t224 t225 t226 _ A3.out).mono ?_); rintro e w' ⟨rfl, ⟨nd, rfl⟩⟩; refine ⟨_, rfl, ?_⟩) | ((with_reducible refine gate_callee (f := 79) rfl ?_); refine goesL_ (some 40) rfl rfl Tryz.func79 (by kernel_rfl) rfl #[.string a0, .int .i64 t225, .int .i64 4] rfl (by (try simp only [zcad, zcae, zcaf]); first | done | rfl) ?_; (with_reducible refine (octet_ReadWide.calls k a0 t225 4 t227 t228 t229 _ A7.out).mono ?_); rintro e w' ⟨rfl, ⟨nd, rfl⟩⟩; refine ⟨_, rfl, ?_⟩) | ((with_reducible refine gate_callee (f := 80) rfl ?_); refine goesL_ (some 57) rfl rfl Tryz.func80 (by kernel_rfl) rfl #[.int .u32 4294967295, .string (a0.extract (a1 : Int).toNat (t225 : Int).toNat)] rfl (by (try simp only [zcad, zcae, zcaf]); first | done | rfl) ?_; (with_reducible refine (frame_more.calls k 4294967295 (a0.extract (a1 : Int).toNat (t225 : Int).toNat) t230 _ A14.out).mono ?_); rintro e w' ⟨rfl, ⟨nd, rfl⟩⟩; refine ⟨_, rfl, ?_⟩) | ((with_reducible refine gate_callee (f := 80) rfl ?_); refine goesL_ (some 59) rfl rfl Tryz.func80 (by kernel_rfl) rfl #[.int .u32 t230, .string (a0.extract (t228 : Int).toNat ((wrap64 (t228 + (wrap64 (t224)))) : Int).toNat)] rfl (by (try simp only [zcad, zcae, zcaf]); first | done | rfl) ?_; (with_reducible refine (frame_more.calls k t230 (a0.extract (t228 : Int).toNat ((wrap64 (t228 + (wrap64 (t224)))) : Int).toNat) t231 _ A15.out).mono ?_); rintro e w' ⟨rfl, ⟨nd, rfl⟩⟩; refine ⟨_, rfl, ?_⟩))
           go_ret3
           exact ⟨by first | rfl | (simp; done) | (simp [*]; done), by repeat (first | exact Drawn0.refl _ | apply Drawn0.step)⟩
         ·rw [if_neg c13] at H
          exact absurd H (by simp)
        ·rw [if_neg c12] at H
         exact absurd H (by simp)
       ·rw [if_neg c11] at H
        exact absurd H (by simp)
      ·rw [if_neg c10] at H
       exact absurd H (by simp)
     ·rw [if_neg c9] at H
      exact absurd H (by simp)
    ·rw [if_neg c8] at H
     exact absurd H (by simp)
 ·rw [if_neg c4] at H
  have c4b0 : (t226 == 0) = false := beq_eq_false_iff_ne.mpr c4
  have c4b1 : (t226 != 0) = true := bne_iff_ne.mpr c4
  simp only [Option.some.injEq, Prod.mk.injEq] at H
  obtain ⟨rfl, rfl, rfl⟩ := H
  go_enter Tryz.func62, Tryz.ntmps62
  go_wp2_with (first | ((with_reducible refine gate_callee (f := 79) rfl ?_); refine goesL_ (some 17) rfl rfl Tryz.func79 (by kernel_rfl) rfl #[.string a0, .int .i64 a1, .int .i64 4] rfl (by (try simp only [zcad, zcae, zcaf]); first | done | rfl) ?_; (with_reducible refine (octet_ReadWide.calls k a0 a1 4 t224 t225 t226 _ A3.out).mono ?_); rintro e w' ⟨rfl, ⟨nd, rfl⟩⟩; refine ⟨_, rfl, ?_⟩))
  go_ret3
  exact ⟨by first | rfl | (simp; done) | (simp [*]; done), by repeat (first | exact Drawn0.refl _ | apply Drawn0.step)⟩
/-! ### frame_Frames: function 36 -/
def frame_Frames.l0 : Nat → ByteArray → List ByteArray → Int → Option (List ByteArray × Int)
 | 0, _, _, _ => none
 | k + 1, x0, x4, x5 => if x5 < (x0.size : Int) then ((frame_Unframe.f k x0 x5).bind fun bt232 => (if bt232.2.2 = 0 then (if x4.length < 8796093022208 then (frame_Frames.l0 k x0 (x4 ++ [bt232.1]) bt232.2.1) else (none)) else (some (x4, x5)))) else (some (x4, x5))
def frame_Frames.f (k : Nat) (a0 : ByteArray) : Option (List ByteArray × Int) := frame_Frames.l0 k a0 ([] : List ByteArray) 0
theorem frame_Frames.mono_l : ∀ k, (∀ y0 y1 y2, LeO (frame_Frames.l0 k y0 y1 y2) (frame_Frames.l0 (k + 1) y0 y1 y2))
 | 0 => fun _ _ _ r h => by simp [frame_Frames.l0] at h
 | k + 1 => by
  have ih0 := frame_Frames.mono_l k
  ·intro y0 y1 y2
   unfold frame_Frames.l0
   repeat' first
   | (with_reducible exact ih0 _ _ _)
   | (with_reducible exact frame_Unframe.mono _ _ _)
   | (with_reducible exact LeO.refl _)
   | (with_reducible exact LeO.none _)
   | (with_reducible refine LeO.ite ?_ ?_)
   | (with_reducible refine LeO.bind ?_ (fun _ => ?_))
   | exact ih0 _ _ _
   | exact frame_Unframe.mono _ _ _
   | exact LeO.none _
   | refine LeO.ite ?_ ?_
   | refine LeO.bind ?_ (fun _ => ?_)
theorem frame_Frames.mono : ∀ a0 k, LeO (frame_Frames.f k a0) (frame_Frames.f (k + 1) a0) := by
 intro a0 k
 have ih0 := frame_Frames.mono_l k
 unfold frame_Frames.f
 repeat' first
   | (with_reducible exact ih0 _ _ _)
   | (with_reducible exact frame_Unframe.mono _ _ _)
   | (with_reducible exact LeO.refl _)
   | (with_reducible exact LeO.none _)
   | (with_reducible refine LeO.ite ?_ ?_)
   | (with_reducible refine LeO.bind ?_ (fun _ => ?_))
   | exact ih0 _ _ _
   | exact frame_Unframe.mono _ _ _
   | exact LeO.none _
   | refine LeO.ite ?_ ?_
   | refine LeO.bind ?_ (fun _ => ?_)
set_option maxHeartbeats 8000000 in
set_option maxRecDepth 100000 in
theorem frame_Frames.calls (k : Nat) (a0 : ByteArray) (r1 : List ByteArray) (r2 : Int) (w : World) (h : frame_Frames.f k a0 = some (r1, r2)) :
  Calls Tryz.prog 36 #[.string a0] w fun e w' => ∃ v0_ : Value, e = .returned (.tuple #[v0_, .int .i64 r2]) ∧ Kd.R Kd.string 9 w' w.heap.size (fun _ => True) v0_ r1 ∧ Below w.heap.size w w' := by
 have HB := zcag (Below.refl w.heap.size w)
 have H : (frame_Frames.l0 k a0 ([] : List ByteArray) 0) = some (r1, r2) := h
 clear h
 have H' := zcag H
 clear H
 go_enter Tryz.func36, Tryz.ntmps36
 go_wp2
 go_loopg [4, 5] k (fun kq v4 v5 w' => ∃ (zcao : List ByteArray) (zcam : Int), v5 = .int .i64 zcam ∧ Aside0 (frame_Frames.l0 kq a0 zcao zcam = some (r1, r2)) ∧ Aside0 (kq ≤ k) ∧ Aside0 (Kd.R Kd.string 9 w' w.heap.size (fun _ => True) v4 zcao) ∧ Aside0 (Below w.heap.size w w'))
 case atStart => exact ⟨(([] : List ByteArray)), (0), (by first | rfl | (simp; done) | (simp [*]; done)), H', ⟨Nat.le_refl _⟩, ⟨by first | exact Kd.R_nil _ _ _ _ _ | exact Kd.N_nil _ _ _ _ _ | exact Kd.V_nil _ _ _ _ _ | exact Kd.Q_nil _ _ _ _ _ | exact Kd.S_nil _ _ _ _ _⟩, ⟨by repeat (first | (with_reducible first | exact HB.out | apply zcac | apply zcaa | apply zcab) | exact HB.out)⟩⟩
 case round =>
  clear H'
  obtain ⟨zcao, zcam, rfl, HA, HK1, HO_4, HB⟩ := hrel
  cases gk with
  | zero => exact absurd HA.out (by simp [frame_Frames.l0])
  | succ k1 =>
   have H := HA.out
   clear HA
   simp only [frame_Frames.l0] at H
   by_cases c2 : zcam < (a0.size : Int)
   ·rw [if_pos c2] at H
    have c2b0 : decide (zcam < (a0.size : Int)) = true := decide_eq_true c2
    clear c2
    replace H := Option.bind_eq_some_iff.mp H
    obtain ⟨⟨t232, t233, t234⟩, A30, H⟩ := H
    replace H : (if t234 = 0 then (if zcao.length < 8796093022208 then (frame_Frames.l0 k1 a0 (zcao ++ [t232]) t233) else (none)) else (some (zcao, zcam))) = some (r1, r2) := H
    have A3 := zcag A30
    clear A30
    by_cases c4 : t234 = 0
    ·rw [if_pos c4] at H
     have c4b0 : (t234 == 0) = true := beq_iff_eq.mpr c4
     have c4b1 : (t234 != 0) = false := bne_eq_false_iff_eq.mpr c4
     clear c4
     by_cases c5 : zcao.length < 8796093022208
     ·rw [if_pos c5] at H
      have LMc5 := zcag c5
      clear c5
      obtain ⟨y235, hy235⟩ : ∃ y_ : List ByteArray, y_ = (zcao ++ [t232]) := ⟨_, rfl⟩
      replace H : (frame_Frames.l0 k1 a0 y235 t233) = some (r1, r2) := by first | (rw [hy235]; with_reducible exact H) | (have H2_ := (Option.bind_some _ _).symm.trans H; rw [hy235]; with_reducible exact H2_) | (have H2_ := (Option.bind_some _ _).symm.trans H; with_reducible exact H2_) | with_reducible exact H | (rw [hy235]; exact H) | exact H
      have Ny235 := zcag hy235
      clear hy235
      have H' := zcag H
      clear H
      go_wp2_with (first | ((with_reducible refine gate_callee (f := 62) rfl ?_); refine goesL_ (some 16) rfl rfl Tryz.func62 (by kernel_rfl) rfl #[.string a0, .int .i64 zcam] rfl (by (try simp only [zcad, zcae, zcaf]); first | done | rfl) ?_; (with_reducible refine (frame_Unframe.calls k1 a0 zcam t232 t233 t234 _ A3.out).mono ?_); rintro e w' ⟨rfl, ⟨nd, rfl⟩⟩; refine ⟨_, rfl, ?_⟩) | ((with_reducible refine gate_builtin (b := .append) (xs := #[.tmp 22, .tmp 24]) rfl ?_); at_builtin; refine Kd.R_append Kd.string (w0 := w) w.heap.size rfl (.tmp 22) (.tmp 24) 22 9 (.string ⟨#[]⟩) 16 rfl Tryz.underlying22 info9 rfl (by decide) (by omega) u4 zcao t232 [.string t232] (fun _ => True) (fun _ => False) rfl rfl ?aP (fun _ hk => hk.elim) ?aF ?aO ?aB ?aS ?aL ?_; (case aP => exact rfl); (case aB => exact (by repeat (first | (with_reducible first | exact HB.out | apply zcac | apply zcaa | apply zcab) | exact HB.out))); (case aF => exact (fun _ _ => trivial)); (case aO => exact (by (with_reducible repeat (first | apply Kd.R_alloc | apply Kd.R_drewN | apply Kd.R_drew)); exact HO_4.out)); (case aS => exact (below_size (by repeat (first | (with_reducible first | exact HB.out | apply zcac | apply zcaa | apply zcab) | exact HB.out)))); (case aL => have := LMc5.out; omega); intro v236 w6 ho hb hg hat; rw [← Ny235.out] at ho; have n0_ := zcag (hb); have n1_ := zcag (ho); clear HB; clear HO_4; have HB := n0_; have HO237 := n1_; clear n0_ n1_; clear ho hb hg hat))
      go_roundg k1
      case measure => have := HK1.out; omega
      case rel => exact ⟨(y235), (t233), (by first | rfl | (simp; done) | (simp [*]; done)), H', ⟨by have := HK1.out; omega⟩, ⟨by (with_reducible repeat (first | apply Kd.R_alloc | apply Kd.R_drewN | apply Kd.R_drew)); exact HO237.out⟩, ⟨by repeat (first | (with_reducible first | exact HB.out | apply zcac | apply zcaa | apply zcab) | exact HB.out)⟩⟩
     ·rw [if_neg c5] at H
      exact absurd H (by simp)
    ·rw [if_neg c4] at H
     have c4b0 : (t234 == 0) = false := beq_eq_false_iff_ne.mpr c4
     have c4b1 : (t234 != 0) = true := bne_iff_ne.mpr c4
     simp only [Option.some.injEq, Prod.mk.injEq] at H
     obtain ⟨rfl, rfl⟩ := H
     go_wp2_with (first | ((with_reducible refine gate_callee (f := 62) rfl ?_); refine goesL_ (some 16) rfl rfl Tryz.func62 (by kernel_rfl) rfl #[.string a0, .int .i64 zcam] rfl (by (try simp only [zcad, zcae, zcaf]); first | done | rfl) ?_; (with_reducible refine (frame_Unframe.calls k1 a0 zcam t232 t233 t234 _ A3.out).mono ?_); rintro e w' ⟨rfl, ⟨nd, rfl⟩⟩; refine ⟨_, rfl, ?_⟩))
     go_ret2
     exact ⟨_, by first | rfl | (simp [errW_none, errW_some] <;> rfl) | (simp [*, errW_none, errW_some] <;> rfl), by (with_reducible repeat (first | apply Kd.R_alloc | apply Kd.R_drewN | apply Kd.R_drew)); exact HO_4.out, by repeat (first | (with_reducible first | exact HB.out | apply zcac | apply zcaa | apply zcab) | exact HB.out)⟩
   ·rw [if_neg c2] at H
    have c2b0 : decide (zcam < (a0.size : Int)) = false := decide_eq_false c2
    clear c2
    simp only [Option.some.injEq, Prod.mk.injEq] at H
    obtain ⟨rfl, rfl⟩ := H
    go_wp2
    go_ret2
    exact ⟨_, by first | rfl | (simp [errW_none, errW_some] <;> rfl) | (simp [*, errW_none, errW_some] <;> rfl), by (with_reducible repeat (first | apply Kd.R_alloc | apply Kd.R_drewN | apply Kd.R_drew)); exact HO_4.out, by repeat (first | (with_reducible first | exact HB.out | apply zcac | apply zcaa | apply zcab) | exact HB.out)⟩

-- NOT PRINTED: function 95 (abi_NoEscape)

-- NOT PRINTED: function 81 (strings_Builder_copyCheck)

-- NOT PRINTED: function 96 (bytealg_MakeNoZero)

-- NOT PRINTED: function 82 (strings_Builder_grow)

-- NOT PRINTED: function 63 (strings_Builder_Grow)

-- NOT PRINTED: function 64 (strings_Builder_WriteString)

-- NOT PRINTED: function 65 (strings_Builder_String)

-- NOT PRINTED: function 37 (strings_Join)

-- NOT PRINTED: function 8 (digest_Hex)
/-! ### octet_Wide: function 83 -/
mutual
def octet_Wide.j0 : Nat → Int → Int → Bool → Option (ByteArray × Int)
 | 0, _, _, _ => none
 | k + 1, x0, x1, x24 => if x24 = true then (some ((⟨#[]⟩ : ByteArray), 1)) else (if 0 ≤ x1 then (if (x1 : Int).toNat ≤ 281474976710656 then (octet_Wide.l0 k x0 x1 (List.replicate (x1 : Int).toNat 0) x1 0) else (none)) else (none))
def octet_Wide.l0 : Nat → Int → Int → List Int → Int → Int → Option (ByteArray × Int)
 | 0, _, _, _, _, _ => none
 | k + 1, x0, x1, x6, x27, x28 => if x28 < x27 then (if 0 ≤ (wrap64 (8 * x28)) then (if 0 ≤ (wrap64 ((wrap64 (x1 - 1)) - x28)) then (if (wrap64 ((wrap64 (x1 - 1)) - x28)) < (x6.length : Int) then (octet_Wide.l0 k x0 x1 (x6.set ((wrap64 ((wrap64 (x1 - 1)) - x28)) : Int).toNat ((shr .u64 x0 (wrap64 (8 * x28))) % 256)) x27 (wrap64 (x28 + 1))) else (none)) else (none)) else (none)) else (some (strOfNums x6, 0))
end
def octet_Wide.f (k : Nat) (a0 : Int) (a1 : Int) : Option (ByteArray × Int) := if a1 < 1 then (octet_Wide.j0 k a0 a1 true) else (if a1 > 8 then (octet_Wide.j0 k a0 a1 true) else (if a1 < 8 then (if 0 ≤ (wrap64 (8 * a1)) then (octet_Wide.j0 k a0 a1 ((shr .u64 a0 (wrap64 (8 * a1))) != 0)) else (none)) else (octet_Wide.j0 k a0 a1 false)))
theorem octet_Wide.mono_l : ∀ k, (∀ y0 y1 y2, LeO (octet_Wide.j0 k y0 y1 y2) (octet_Wide.j0 (k + 1) y0 y1 y2)) ∧ (∀ y0 y1 y2 y3 y4, LeO (octet_Wide.l0 k y0 y1 y2 y3 y4) (octet_Wide.l0 (k + 1) y0 y1 y2 y3 y4))
 | 0 => ⟨fun _ _ _ r h => by simp [octet_Wide.j0] at h, fun _ _ _ _ _ r h => by simp [octet_Wide.l0] at h⟩
 | k + 1 => by
  obtain ⟨ih0, ih1⟩ := octet_Wide.mono_l k
  refine ⟨?_, ?_⟩
  ·intro y0 y1 y2
   unfold octet_Wide.j0
   repeat' first
   | (with_reducible exact ih0 _ _ _)
   | (with_reducible exact ih1 _ _ _ _ _)
   | (with_reducible exact LeO.refl _)
   | (with_reducible exact LeO.none _)
   | (with_reducible refine LeO.ite ?_ ?_)
   | (with_reducible refine LeO.bind ?_ (fun _ => ?_))
   | exact ih0 _ _ _
   | exact ih1 _ _ _ _ _
   | exact LeO.none _
   | refine LeO.ite ?_ ?_
   | refine LeO.bind ?_ (fun _ => ?_)
  ·intro y0 y1 y2 y3 y4
   unfold octet_Wide.l0
   repeat' first
   | (with_reducible exact ih0 _ _ _)
   | (with_reducible exact ih1 _ _ _ _ _)
   | (with_reducible exact LeO.refl _)
   | (with_reducible exact LeO.none _)
   | (with_reducible refine LeO.ite ?_ ?_)
   | (with_reducible refine LeO.bind ?_ (fun _ => ?_))
   | exact ih0 _ _ _
   | exact ih1 _ _ _ _ _
   | exact LeO.none _
   | refine LeO.ite ?_ ?_
   | refine LeO.bind ?_ (fun _ => ?_)
theorem octet_Wide.mono : ∀ a0 a1 k, LeO (octet_Wide.f k a0 a1) (octet_Wide.f (k + 1) a0 a1) := by
 intro a0 a1 k
 obtain ⟨ih0, ih1⟩ := octet_Wide.mono_l k
 unfold octet_Wide.f
 repeat' first
   | (with_reducible exact ih0 _ _ _)
   | (with_reducible exact ih1 _ _ _ _ _)
   | (with_reducible exact LeO.refl _)
   | (with_reducible exact LeO.none _)
   | (with_reducible refine LeO.ite ?_ ?_)
   | (with_reducible refine LeO.bind ?_ (fun _ => ?_))
   | exact ih0 _ _ _
   | exact ih1 _ _ _ _ _
   | exact LeO.none _
   | refine LeO.ite ?_ ?_
   | refine LeO.bind ?_ (fun _ => ?_)
set_option maxHeartbeats 8000000 in
set_option maxRecDepth 100000 in
theorem octet_Wide.calls (k : Nat) (a0 : Int) (a1 : Int) (r1 : ByteArray) (r2 : Int) (w : World) (h : octet_Wide.f k a0 a1 = some (r1, r2)) :
  Calls Tryz.prog 83 #[.int .u64 a0, .int .i64 a1] w fun e w' => e = .returned (.tuple #[.string r1, .int .i64 r2]) ∧ Below w.heap.size w w' := by
 have HB := zcag (Below.refl w.heap.size w)
 have H : (if a1 < 1 then (octet_Wide.j0 k a0 a1 true) else (if a1 > 8 then (octet_Wide.j0 k a0 a1 true) else (if a1 < 8 then (if 0 ≤ (wrap64 (8 * a1)) then (octet_Wide.j0 k a0 a1 ((shr .u64 a0 (wrap64 (8 * a1))) != 0)) else (none)) else (octet_Wide.j0 k a0 a1 false)))) = some (r1, r2) := h
 clear h
 have HC3 := zcag H
 clear H
 go_enter Tryz.func83, Tryz.ntmps83
 go_upto_region 1 with (fail)
 go_cut [24] (fun v24 wc => ∃ (kq : Nat) (zcar : Bool), v24 = .bool zcar ∧ Aside0 (octet_Wide.j0 kq a0 a1 zcar = some (r1, r2)) ∧ Aside0 (kq ≤ k) ∧ Aside0 (Below w.heap.size w wc))
 case first =>
  have H := HC3.out
  clear HC3
  by_cases c4 : a1 < 1
  ·rw [if_pos c4] at H
   have c4b0 : decide (a1 < 1) = true := decide_eq_true c4
   clear c4
   (first | rw [c4b0] | (simp only [i64_w, i32_w]; rw [c4b0]) | skip)
   have H' := zcag H
   clear H
   go_wp2
   go_meet
   case rel => exact ⟨_, (true), (by first | rfl | (simp; done) | (simp [*]; done)), H', ⟨by first | omega | exact Nat.le_refl _⟩, ⟨by repeat (first | (with_reducible first | exact HB.out | apply zcac | apply zcaa | apply zcab) | exact HB.out)⟩⟩
  ·rw [if_neg c4] at H
   have c4b0 : decide (a1 < 1) = false := decide_eq_false c4
   clear c4
   (first | rw [c4b0] | (simp only [i64_w, i32_w]; rw [c4b0]) | skip)
   by_cases c5 : a1 > 8
   ·rw [if_pos c5] at H
    have c5b0 : decide (8 < a1) = true := decide_eq_true c5
    clear c5
    have H' := zcag H
    clear H
    go_wp2
    go_meet
    case rel => exact ⟨_, (true), (by first | rfl | (simp; done) | (simp [*]; done)), H', ⟨by first | omega | exact Nat.le_refl _⟩, ⟨by repeat (first | (with_reducible first | exact HB.out | apply zcac | apply zcaa | apply zcab) | exact HB.out)⟩⟩
   ·rw [if_neg c5] at H
    have c5b0 : decide (8 < a1) = false := decide_eq_false c5
    clear c5
    by_cases c6 : a1 < 8
    ·rw [if_pos c6] at H
     have c6b0 : decide (a1 < 8) = true := decide_eq_true c6
     clear c6
     obtain ⟨ji7, hji7⟩ : ∃ j_ : Int, (wrap64 (8 * a1)) = j_ := ⟨_, rfl⟩
     replace H : (if 0 ≤ (ji7) then (octet_Wide.j0 k a0 a1 ((shr .u64 a0 (ji7)) != 0)) else (none)) = some (r1, r2) := by first | (rw [hji7] at H; exact H) | (simp only [hji7] at H ⊢; exact H)
     have hji7w : (IntKind.i64.wrap (8 * a1)) = ji7 := (i64_w _).trans hji7
     by_cases c8 : 0 ≤ (ji7)
     ·rw [if_pos c8] at H
      have c8b0 := eq_true c8
      have c8b1 : decide (0 ≤ (ji7)) = true := decide_eq_true c8
      clear c8
      obtain ⟨ji9, hji9⟩ : ∃ j_ : Int, (shr .u64 a0 (ji7)) = j_ := ⟨_, rfl⟩
      replace H : (octet_Wide.j0 k a0 a1 ((ji9) != 0)) = some (r1, r2) := by first | (rw [hji9] at H; exact H) | (simp only [hji9] at H ⊢; exact H)
      have hji9_ : (a0 / 2 ^ min (ji7).toNat 64) = ji9 := hji9
      have hji9z : (ji7) ≤ 64 → (a0 / 2 ^ (ji7).toNat) = ji9 := shr_small hji9
      have H' := zcag H
      clear H
      go_wp2
      go_meet
      case rel => exact ⟨_, (((ji9) != 0)), (by first | rfl | (simp; done) | (simp only [← hji9] <;> (first | rfl | simp)) | (simp [*]; done)), H', ⟨by first | omega | exact Nat.le_refl _⟩, ⟨by repeat (first | (with_reducible first | exact HB.out | apply zcac | apply zcaa | apply zcab) | exact HB.out)⟩⟩
     ·rw [if_neg c8] at H
      exact absurd H (by simp)
    ·rw [if_neg c6] at H
     have c6b0 : decide (a1 < 8) = false := decide_eq_false c6
     clear c6
     have H' := zcag H
     clear H
     go_wp2
     go_meet
     case rel => exact ⟨_, (false), (by first | rfl | (simp; done) | (simp [*]; done)), H', ⟨by first | omega | exact Nat.le_refl _⟩, ⟨by repeat (first | (with_reducible first | exact HB.out | apply zcac | apply zcaa | apply zcab) | exact HB.out)⟩⟩
 case rest =>
  clear HC3
  try clear p2
  try clear c4
  try clear c4b0
  try clear c5
  try clear c5b0
  try clear c6
  try clear c6b0
  try clear p6
  try clear c8
  try clear c8b0
  try clear c8b1
  obtain ⟨kq, zcar, rfl, HA, HJ2, HB⟩ := hcut
  cases kq with
  | zero => exact absurd HA.out (by simp [octet_Wide.j0])
  | succ kj2 =>
   have H := HA.out
   clear HA
   simp only [octet_Wide.j0] at H
   by_cases c10 : zcar = true
   ·subst c10
    have H1 : (some ((⟨#[]⟩ : ByteArray), 1)) = some (r1, r2) := by rw [if_pos rfl] at H; exact H
    clear H
    have H := H1
    clear H1
    simp only [Option.some.injEq, Prod.mk.injEq] at H
    obtain ⟨rfl, rfl⟩ := H
    go_wp2
    go_ret2
    exact ⟨by first | rfl | (simp [errW_none, errW_some] <;> rfl) | (simp [*, errW_none, errW_some] <;> rfl), by repeat (first | (with_reducible first | exact HB.out | apply zcac | apply zcaa | apply zcab) | exact HB.out)⟩
   ·replace c10 := Bool.eq_false_iff.mpr c10
    subst c10
    have H1 : (if 0 ≤ a1 then (if (a1 : Int).toNat ≤ 281474976710656 then (octet_Wide.l0 kj2 a0 a1 (List.replicate (a1 : Int).toNat 0) a1 0) else (none)) else (none)) = some (r1, r2) := by rw [if_neg (show ¬ (false = true) by decide)] at H; exact H
    clear H
    have H := H1
    clear H1
    by_cases c11 : 0 ≤ a1
    ·rw [if_pos c11] at H
     have c11b0 := eq_true c11
     have c11b1 : decide (0 ≤ a1) = true := decide_eq_true c11
     clear c11
     by_cases c12 : (a1 : Int).toNat ≤ 281474976710656
     ·rw [if_pos c12] at H
      have c12b0 := eq_true c12
      have c12b1 : decide ((a1 : Int).toNat ≤ 281474976710656) = true := decide_eq_true c12
      clear c12
      obtain ⟨y262, hy262⟩ : ∃ y_ : List Int, y_ = (List.replicate (a1 : Int).toNat 0) := ⟨_, rfl⟩
      replace H : (octet_Wide.l0 kj2 a0 a1 y262 a1 0) = some (r1, r2) := by first | (rw [hy262]; with_reducible exact H) | (have H2_ := (Option.bind_some _ _).symm.trans H; rw [hy262]; with_reducible exact H2_) | (have H2_ := (Option.bind_some _ _).symm.trans H; with_reducible exact H2_) | with_reducible exact H | (rw [hy262]; exact H) | exact H
      have Ny262 := zcag hy262
      clear hy262
      have H' := zcag H
      clear H
      go_wp2_with (first | ((with_reducible refine gate_dst (N := 26) rfl ?_); refine Kd.R_make (Kd.int .u8) _ 5 rfl (N := 26) rfl 72 _ _ rfl a1 rfl rfl Tryz.underlying72 (.int .u8 0) 1 info5 rfl (by decide) (by omega) 0 (ok := fun _ => True) (okp := fun _ => True) rfl (fun _ hk => hk) trivial (of_decide_eq_true (by first | (with_reducible assumption) | assumption)) (Nat.le_trans (Nat.mul_le_mul_right _ (of_decide_eq_true (by first | (with_reducible assumption) | assumption) : a1.toNat ≤ 281474976710656)) (by omega)) (Below.refl _ _) (Nat.le_refl _) ?_; intro v263 w13 ho14 hb hg_ hnew_; clear hg_ hnew_; (first | rw [← Ny262.out] at ho14 | (simp only [Int.reduceToNat] at ho14; rw [← Ny262.out] at ho14)); have n0_ := zcag (Kd.R_lower ho14 (below_size (by repeat (first | (with_reducible first | exact HB.out | apply zcac | apply zcaa | apply zcab) | exact HB.out)))); have n1_ := zcag (below_step (by repeat (first | (with_reducible first | exact HB.out | apply zcac | apply zcaa | apply zcab) | exact HB.out)) hb); clear HB; have HO264 := n0_; have HB := n1_; clear n0_ n1_; clear hb ho14))
      go_loopg [28] kj2 (fun kq v28 w' => ∃ (zcak : List Int) (zcai : Int), v28 = .int .i64 zcai ∧ Aside0 (octet_Wide.l0 kq a0 a1 zcak a1 zcai = some (r1, r2)) ∧ Aside0 (kq ≤ kj2) ∧ Aside0 (Kd.R (Kd.int .u8) 5 w' w.heap.size (fun _ => True) v263 zcak) ∧ Aside0 (Below w.heap.size w w'))
      case atStart => exact ⟨(y262), (0), (by first | rfl | (simp; done) | (simp [*]; done)), H', ⟨Nat.le_refl _⟩, ⟨by (with_reducible repeat (first | apply Kd.R_alloc | apply Kd.R_drewN | apply Kd.R_drew)); exact HO264.out⟩, ⟨by repeat (first | (with_reducible first | exact HB.out | apply zcac | apply zcaa | apply zcab) | exact HB.out)⟩⟩
      case round =>
       clear H'
       try clear c1
       try clear p2
       try clear c4
       try clear c4b0
       try clear c5
       try clear c5b0
       try clear c6
       try clear c6b0
       try clear p6
       try clear c8
       try clear c8b0
       try clear c8b1
       try clear c10
       try clear c11
       try clear c11b0
       try clear c11b1
       try clear c12
       try clear c12b0
       try clear c12b1
       try clear p2
       try clear p6
       obtain ⟨zcak, zcai, rfl, HA, HK2, HO_6, HB⟩ := hrel
       cases gk with
       | zero => exact absurd HA.out (by simp [octet_Wide.l0])
       | succ k2 =>
        have H := HA.out
        clear HA
        simp only [octet_Wide.l0] at H
        by_cases c15 : zcai < a1
        ·rw [if_pos c15] at H
         have c15b0 : decide (zcai < a1) = true := decide_eq_true c15
         clear c15
         obtain ⟨ji16, hji16⟩ : ∃ j_ : Int, (wrap64 (8 * zcai)) = j_ := ⟨_, rfl⟩
         replace H : (if 0 ≤ (ji16) then (if 0 ≤ (wrap64 ((wrap64 (a1 - 1)) - zcai)) then (if (wrap64 ((wrap64 (a1 - 1)) - zcai)) < (zcak.length : Int) then (octet_Wide.l0 k2 a0 a1 (zcak.set ((wrap64 ((wrap64 (a1 - 1)) - zcai)) : Int).toNat ((shr .u64 a0 (ji16)) % 256)) a1 (wrap64 (zcai + 1))) else (none)) else (none)) else (none)) = some (r1, r2) := by first | (rw [hji16] at H; exact H) | (simp only [hji16] at H ⊢; exact H)
         have hji16w : (IntKind.i64.wrap (8 * zcai)) = ji16 := (i64_w _).trans hji16
         by_cases c17 : 0 ≤ (ji16)
         ·rw [if_pos c17] at H
          have c17b0 := eq_true c17
          have c17b1 : decide (0 ≤ (ji16)) = true := decide_eq_true c17
          clear c17
          obtain ⟨ji18, hji18⟩ : ∃ j_ : Int, (shr .u64 a0 (ji16)) = j_ := ⟨_, rfl⟩
          replace H : (if 0 ≤ (wrap64 ((wrap64 (a1 - 1)) - zcai)) then (if (wrap64 ((wrap64 (a1 - 1)) - zcai)) < (zcak.length : Int) then (octet_Wide.l0 k2 a0 a1 (zcak.set ((wrap64 ((wrap64 (a1 - 1)) - zcai)) : Int).toNat ((ji18) % 256)) a1 (wrap64 (zcai + 1))) else (none)) else (none)) = some (r1, r2) := by first | (rw [hji18] at H; exact H) | (simp only [hji18] at H ⊢; exact H)
          have hji18_ : (a0 / 2 ^ min (ji16).toNat 64) = ji18 := hji18
          have hji18z : (ji16) ≤ 64 → (a0 / 2 ^ (ji16).toNat) = ji18 := shr_small hji18
          obtain ⟨ji19, hji19⟩ : ∃ j_ : Int, (wrap64 ((wrap64 (a1 - 1)) - zcai)) = j_ := ⟨_, rfl⟩
          replace H : (if 0 ≤ (ji19) then (if (ji19) < (zcak.length : Int) then (octet_Wide.l0 k2 a0 a1 (zcak.set ((ji19) : Int).toNat ((ji18) % 256)) a1 (wrap64 (zcai + 1))) else (none)) else (none)) = some (r1, r2) := by first | (rw [hji19] at H; exact H) | (simp only [hji19] at H ⊢; exact H)
          have hji19w : (IntKind.i64.wrap ((wrap64 (a1 - 1)) - zcai)) = ji19 := (i64_w _).trans hji19
          by_cases c20 : 0 ≤ (ji19)
          ·rw [if_pos c20] at H
           have c20b0 : decide (0 ≤ (ji19)) = true := decide_eq_true c20
           clear c20
           by_cases c21 : (ji19) < (zcak.length : Int)
           ·rw [if_pos c21] at H
            have c21b0 : decide ((ji19) < (zcak.length : Int)) = true := decide_eq_true c21
            clear c21
            obtain ⟨y265, hy265⟩ : ∃ y_ : List Int, y_ = (zcak.set ((ji19) : Int).toNat ((ji18) % 256)) := ⟨_, rfl⟩
            replace H : (octet_Wide.l0 k2 a0 a1 y265 a1 (wrap64 (zcai + 1))) = some (r1, r2) := by first | (rw [hy265]; with_reducible exact H) | (have H2_ := (Option.bind_some _ _).symm.trans H; rw [hy265]; with_reducible exact H2_) | (have H2_ := (Option.bind_some _ _).symm.trans H; with_reducible exact H2_) | with_reducible exact H | (rw [hy265]; exact H) | exact H
            have Ny265 := zcag hy265
            clear hy265
            have H' := zcag H
            clear H
            have p22 : 0 ≤ ((ji19) : Int) := of_decide_eq_true (by first | (with_reducible assumption) | assumption)
            have q22 : ((ji19) : Int) < ((zcak.length : Int) : Int) := of_decide_eq_true (by first | (with_reducible assumption) | assumption)
            obtain ⟨go22, co22, eo22, zcau, gl22, cl22, HG22⟩ := Kd.R_form HO_6.out (by omega)
            (first | cases eo22 | (injection eo22 with ea_ en_ ec_; (first | subst ea_ | (injection ea_ with ea_; subst ea_)); subst ec_; clear en_))
            have GB22 := zcag zcau
            have GG22 := zcag HG22
            clear zcau gl22 HG22
            obtain ⟨hx22_0, hf22_0⟩ := Kd.R_celln 0 HO_6.out ((ji19) : Int) p22 q22
            replace p22 := eq_true p22
            replace q22 := eq_true q22
            have HP23 := Kd.R_putg HO_6.out ((ji19) : Int) ((ji18) % 256)
            go_wp2_with (first | ((with_reducible refine gate_store (t := 5) (p := 41) rfl ?_); refine store_event (t := 5) (p := 41) (v := ?vo_w24) (w1 := (wr.setCell ⟨go22, ((ji19) : Int).toNat, none⟩ (.int .u8 ((ji18) % 256)))) ?hg ?ho ?hn ?hr ?_; (case ho => rfl); (case hg => rfl); (case hn => rfl); (case hr => first | (go_simp; done) | (go_simp; rfl)); intro w24 hw; have hg : wr.grownBy w24 (some go22) := (by rw [hw]; exact HP23.2); have hp_ : Kd.R (Kd.int .u8) 5 w24 w.heap.size (fun _ => True) (.slice (some ⟨go22, 0, none⟩) zcak.length co22) y265 := (by rw [hw, Ny265.out]; exact HP23.1); clear HP23; have n0_ := zcag (hp_); have n1_ := zcag ((by rw [hw]; exact below_set (HB.out) GB22.out : Below w.heap.size w w24)); clear HO_6; clear HB; have HO_6 := n0_; have HB := n1_; clear n0_ n1_; clear hg hw hp_))
            go_roundg k2
            case measure => have := HJ2.out; have := HK2.out; omega
            case rel => exact ⟨(y265), (wrap64 (zcai + 1)), (by first | rfl | (simp; done) | (simp [*]; done)), H', ⟨by have := HJ2.out; have := HK2.out; omega⟩, ⟨by (with_reducible repeat (first | apply Kd.R_alloc | apply Kd.R_drewN | apply Kd.R_drew)); exact HO_6.out⟩, ⟨by repeat (first | (with_reducible first | exact HB.out | apply zcac | apply zcaa | apply zcab) | exact HB.out)⟩⟩
           ·rw [if_neg c21] at H
            exact absurd H (by simp)
          ·rw [if_neg c20] at H
           exact absurd H (by simp)
         ·rw [if_neg c17] at H
          exact absurd H (by simp)
        ·rw [if_neg c15] at H
         have c15b0 : decide (zcai < a1) = false := decide_eq_false c15
         clear c15
         simp only [Option.some.injEq, Prod.mk.injEq] at H
         obtain ⟨rfl, rfl⟩ := H
         have hcv25 := own_string (P := Tryz.prog) Tryz.underlying72 Tryz.underlying5 Tryz.underlying9 (Kd.own_of_R HO_6.out)
         go_wp2
         go_ret2
         exact ⟨by first | rfl | (simp [errW_none, errW_some] <;> rfl) | (simp [*, errW_none, errW_some] <;> rfl), by repeat (first | (with_reducible first | exact HB.out | apply zcac | apply zcaa | apply zcab) | exact HB.out)⟩
     ·rw [if_neg c12] at H
      exact absurd H (by simp)
    ·rw [if_neg c11] at H
     exact absurd H (by simp)
/-! ### frame_Frame: function 66 -/
def frame_Frame.f (k : Nat) (a0 : ByteArray) : Option (ByteArray × Int) := if (a0.size : Int) > 262144 then (some ((⟨#[]⟩ : ByteArray), 2)) else ((octet_Wide.f k (IntKind.u64.wrap ((a0.size : Int))) 4).bind fun bt266 => ((frame_more.f k 4294967295 bt266.1).bind fun t268 => ((frame_more.f k t268 a0).bind fun t269 => ((octet_Wide.f k (IntKind.u64.wrap (Go.bits .xor .u32 4294967295 t269)) 4).bind fun bt270 => (if bt266.1.size + bt270.1.size ≤ 9223372036854775807 then (if (bt266.1 ++ bt270.1).size + a0.size ≤ 9223372036854775807 then (some ((bt266.1 ++ bt270.1) ++ a0, 0)) else (none)) else (none))))))
theorem frame_Frame.mono : ∀ a0 k, LeO (frame_Frame.f k a0) (frame_Frame.f (k + 1) a0) := by
 intro a0 k
 unfold frame_Frame.f
 repeat' first
   | (with_reducible exact frame_more.mono _ _ _)
   | (with_reducible exact octet_Wide.mono _ _ _)
   | (with_reducible exact LeO.refl _)
   | (with_reducible exact LeO.none _)
   | (with_reducible refine LeO.ite ?_ ?_)
   | (with_reducible refine LeO.bind ?_ (fun _ => ?_))
   | exact frame_more.mono _ _ _
   | exact octet_Wide.mono _ _ _
   | exact LeO.none _
   | refine LeO.ite ?_ ?_
   | refine LeO.bind ?_ (fun _ => ?_)
set_option maxHeartbeats 8000000 in
set_option maxRecDepth 100000 in
theorem frame_Frame.calls (k : Nat) (a0 : ByteArray) (r1 : ByteArray) (r2 : Int) (w : World) (h : frame_Frame.f k a0 = some (r1, r2)) :
  Calls Tryz.prog 66 #[.string a0] w fun e w' => e = .returned (.tuple #[.string r1, .int .i64 r2]) ∧ Below w.heap.size w w' := by
 have HB := zcag (Below.refl w.heap.size w)
 have H : (if (a0.size : Int) > 262144 then (some ((⟨#[]⟩ : ByteArray), 2)) else ((octet_Wide.f k (IntKind.u64.wrap ((a0.size : Int))) 4).bind fun bt266 => ((frame_more.f k 4294967295 bt266.1).bind fun t268 => ((frame_more.f k t268 a0).bind fun t269 => ((octet_Wide.f k (IntKind.u64.wrap (Go.bits .xor .u32 4294967295 t269)) 4).bind fun bt270 => (if bt266.1.size + bt270.1.size ≤ 9223372036854775807 then (if (bt266.1 ++ bt270.1).size + a0.size ≤ 9223372036854775807 then (some ((bt266.1 ++ bt270.1) ++ a0, 0)) else (none)) else (none))))))) = some (r1, r2) := h
 clear h
 by_cases c2 : (a0.size : Int) > 262144
 ·rw [if_pos c2] at H
  have c2b0 : decide (262144 < (a0.size : Int)) = true := decide_eq_true c2
  have c2b1 : decide (262144 < a0.size) = true := decide_eq_true (by omega)
  clear c2
  simp only [Option.some.injEq, Prod.mk.injEq] at H
  obtain ⟨rfl, rfl⟩ := H
  go_enter Tryz.func66, Tryz.ntmps66
  go_wp2
  go_ret2
  exact ⟨by first | rfl | (simp [errW_none, errW_some] <;> rfl) | (simp [*, errW_none, errW_some] <;> rfl), by repeat (first | (with_reducible first | exact HB.out | apply zcac | apply zcaa | apply zcab) | exact HB.out)⟩
 ·rw [if_neg c2] at H
  have c2b0 : decide (262144 < (a0.size : Int)) = false := decide_eq_false c2
  have c2b1 : decide (262144 < a0.size) = false := decide_eq_false (by omega)
  clear c2
  replace H := Option.bind_eq_some_iff.mp H
  obtain ⟨⟨t266, t267⟩, A30, H⟩ := H
  replace H : ((frame_more.f k 4294967295 t266).bind fun t268 => ((frame_more.f k t268 a0).bind fun t269 => ((octet_Wide.f k (IntKind.u64.wrap (Go.bits .xor .u32 4294967295 t269)) 4).bind fun bt270 => (if t266.size + bt270.1.size ≤ 9223372036854775807 then (if (t266 ++ bt270.1).size + a0.size ≤ 9223372036854775807 then (some ((t266 ++ bt270.1) ++ a0, 0)) else (none)) else (none))))) = some (r1, r2) := H
  have A3 := zcag A30
  clear A30
  replace H := Option.bind_eq_some_iff.mp H
  obtain ⟨t268, A40, H⟩ := H
  replace H : ((frame_more.f k t268 a0).bind fun t269 => ((octet_Wide.f k (IntKind.u64.wrap (Go.bits .xor .u32 4294967295 t269)) 4).bind fun bt270 => (if t266.size + bt270.1.size ≤ 9223372036854775807 then (if (t266 ++ bt270.1).size + a0.size ≤ 9223372036854775807 then (some ((t266 ++ bt270.1) ++ a0, 0)) else (none)) else (none)))) = some (r1, r2) := H
  have A4 := zcag A40
  clear A40
  replace H := Option.bind_eq_some_iff.mp H
  obtain ⟨t269, A50, H⟩ := H
  replace H : ((octet_Wide.f k (IntKind.u64.wrap (Go.bits .xor .u32 4294967295 t269)) 4).bind fun bt270 => (if t266.size + bt270.1.size ≤ 9223372036854775807 then (if (t266 ++ bt270.1).size + a0.size ≤ 9223372036854775807 then (some ((t266 ++ bt270.1) ++ a0, 0)) else (none)) else (none))) = some (r1, r2) := H
  have A5 := zcag A50
  clear A50
  replace H := Option.bind_eq_some_iff.mp H
  obtain ⟨⟨t270, t271⟩, A60, H⟩ := H
  replace H : (if t266.size + t270.size ≤ 9223372036854775807 then (if (t266 ++ t270).size + a0.size ≤ 9223372036854775807 then (some ((t266 ++ t270) ++ a0, 0)) else (none)) else (none)) = some (r1, r2) := H
  have A6 := zcag A60
  clear A60
  by_cases c7 : t266.size + t270.size ≤ 9223372036854775807
  ·rw [if_pos c7] at H
   have c7b0 := eq_true c7
   have c7b1 : decide (t266.size + t270.size ≤ 9223372036854775807) = true := decide_eq_true c7
   try have c7b2 : (9223372036854775807 < t266.size + t270.size) = False := eq_false (Nat.not_lt.2 c7)
   by_cases c8 : (t266 ++ t270).size + a0.size ≤ 9223372036854775807
   ·rw [if_pos c8] at H
    have c8b0 := eq_true c8
    have c8b1 : decide ((t266 ++ t270).size + a0.size ≤ 9223372036854775807) = true := decide_eq_true c8
    try have c8b2 : (9223372036854775807 < (t266 ++ t270).size + a0.size) = False := eq_false (Nat.not_lt.2 c8)
    try have c8b3 : (9223372036854775807 < t266.size + t270.size + a0.size) = False := eq_false (by have q_ := c8; simp only [ByteArray.size_append] at q_; omega)
    simp only [Option.some.injEq, Prod.mk.injEq] at H
    obtain ⟨rfl, rfl⟩ := H
    go_enter Tryz.func66, Tryz.ntmps66
    go_wp2_with (first | ((with_reducible refine gate_callee (f := 83) rfl ?_); refine goesL_ (some 15) rfl rfl Tryz.func83 (by kernel_rfl) rfl #[.int .u64 (IntKind.u64.wrap ((a0.size : Int))), .int .i64 4] rfl (by (try simp only [zcad, zcae, zcaf]); first | done | rfl | (rw [IntWalk.u64_in ((a0.size : Int)) (by first | omega | (simp only [decide_eq_false_iff_not, decide_eq_true_eq] at *; omega))]; rfl)) ?_; (with_reducible refine (octet_Wide.calls k (IntKind.u64.wrap ((a0.size : Int))) 4 t266 t267 _ A3.out).mono ?_); rintro e w9 ⟨rfl, hb⟩; refine ⟨_, rfl, ?_⟩; have n0_ := zcag (below_step (by repeat (first | (with_reducible first | exact HB.out | apply zcac | apply zcaa | apply zcab) | exact HB.out)) hb); clear HB; have HB := n0_; clear n0_; (try clear hb); (try clear hk); (try clear hi)) | ((with_reducible refine gate_callee (f := 80) rfl ?_); refine goesL_ (some 20) rfl rfl Tryz.func80 (by kernel_rfl) rfl #[.int .u32 4294967295, .string t266] rfl (by (try simp only [zcad, zcae, zcaf]); first | done | rfl) ?_; (with_reducible refine (frame_more.calls k 4294967295 t266 t268 _ A4.out).mono ?_); rintro e w' ⟨rfl, ⟨nd, rfl⟩⟩; refine ⟨_, rfl, ?_⟩) | ((with_reducible refine gate_callee (f := 80) rfl ?_); refine goesL_ (some 22) rfl rfl Tryz.func80 (by kernel_rfl) rfl #[.int .u32 t268, .string a0] rfl (by (try simp only [zcad, zcae, zcaf]); first | done | rfl) ?_; (with_reducible refine (frame_more.calls k t268 a0 t269 _ A5.out).mono ?_); rintro e w' ⟨rfl, ⟨nd, rfl⟩⟩; refine ⟨_, rfl, ?_⟩) | ((with_reducible refine gate_callee (f := 83) rfl ?_); refine goesL_ (some 25) rfl rfl Tryz.func83 (by kernel_rfl) rfl #[.int .u64 (IntKind.u64.wrap (Go.bits .xor .u32 4294967295 t269)), .int .i64 4] rfl (by (try simp only [zcad, zcae, zcaf]); first | done | rfl | (rw [IntWalk.u64_in (Go.bits .xor .u32 4294967295 t269) (by first | omega | (simp only [decide_eq_false_iff_not, decide_eq_true_eq] at *; omega))]; rfl)) ?_; (with_reducible refine (octet_Wide.calls k (IntKind.u64.wrap (Go.bits .xor .u32 4294967295 t269)) 4 t270 t271 _ A6.out).mono ?_); rintro e w10 ⟨rfl, hb⟩; refine ⟨_, rfl, ?_⟩; have n0_ := zcag (below_step (by repeat (first | (with_reducible first | exact HB.out | apply zcac | apply zcaa | apply zcab) | exact HB.out)) hb); clear HB; have HB := n0_; clear n0_; (try clear hb); (try clear hk); (try clear hi)))
    go_ret2
    exact ⟨by first | rfl | (simp [errW_none, errW_some] <;> rfl) | (simp [*, errW_none, errW_some] <;> rfl), by repeat (first | (with_reducible first | exact HB.out | apply zcac | apply zcaa | apply zcab) | exact HB.out)⟩
   ·rw [if_neg c8] at H
    exact absurd H (by simp)
  ·rw [if_neg c7] at H
   exact absurd H (by simp)
end Go.Proofs.YtpgbkeaaklglkaaGreatDoor.Q