

/- Functions of the given program, printed: names, and the order of texts. -/
import Derived.Test.YtpgbkeaaklglkaaGreatDoorQx0
namespace Go.Proofs.YtpgbkeaaklglkaaGreatDoor.Q
open Go.RowKit Go.Proofs.YtpgbkeaaklglkaaGreatDoorW.PrintWords Go.Proofs.YtpgbkeaaklglkaaGreatDoorW.PrintLast Go.Proofs.YtpgbkeaaklglkaaGreatDoorW.PrintMore
attribute [local go_sem] max2_int min2_int max_two min_two max_three min_three max_four min_four   -- for this text's walks alone
set_option linter.unusedVariables false
set_option linter.unusedSimpArgs false
attribute [local go_sem] xor_ones_u8 xor_ones_u16 xor_ones_u32 xor_ones_u64 cell_twice frozen_twice
-- NOT PRINTED: function 13 (disk_Disk_Down)
abbrev zhaa := @Aside0.mk
/-! ### disk_Name: function 58 -/
def disk_Name.l0 : Nat → ByteArray → Int → Int → Option (Bool)
 | 0, _, _, _ => none
 | k + 1, x0, x6, x7 => if x7 < x6 then (if 0 ≤ x7 then (if x7 < (x0.size : Int) then (if (bt x0 x7) < 97 then (if (bt x0 x7) < 48 then (if (bt x0 x7) = 46 then (disk_Name.l0 k x0 x6 (wrap64 (x7 + 1))) else (if (bt x0 x7) = 45 then (disk_Name.l0 k x0 x6 (wrap64 (x7 + 1))) else (some false))) else (if (bt x0 x7) > 57 then (if (bt x0 x7) = 46 then (disk_Name.l0 k x0 x6 (wrap64 (x7 + 1))) else (if (bt x0 x7) = 45 then (disk_Name.l0 k x0 x6 (wrap64 (x7 + 1))) else (some false))) else (disk_Name.l0 k x0 x6 (wrap64 (x7 + 1))))) else (if (bt x0 x7) > 122 then (if (bt x0 x7) < 48 then (if (bt x0 x7) = 46 then (disk_Name.l0 k x0 x6 (wrap64 (x7 + 1))) else (if (bt x0 x7) = 45 then (disk_Name.l0 k x0 x6 (wrap64 (x7 + 1))) else (some false))) else (if (bt x0 x7) > 57 then (if (bt x0 x7) = 46 then (disk_Name.l0 k x0 x6 (wrap64 (x7 + 1))) else (if (bt x0 x7) = 45 then (disk_Name.l0 k x0 x6 (wrap64 (x7 + 1))) else (some false))) else (disk_Name.l0 k x0 x6 (wrap64 (x7 + 1))))) else (disk_Name.l0 k x0 x6 (wrap64 (x7 + 1))))) else (none)) else (none)) else (if (x0.size : Int) > 0 then (some (decide ((x0.size : Int) ≤ 80))) else (some false))
def disk_Name.f (k : Nat) (a0 : ByteArray) : Option (Bool) := disk_Name.l0 k a0 (a0.size : Int) 0
theorem disk_Name.mono_l : ∀ k, (∀ y0 y1 y2, LeO (disk_Name.l0 k y0 y1 y2) (disk_Name.l0 (k + 1) y0 y1 y2))
 | 0 => fun _ _ _ r h => by simp [disk_Name.l0] at h
 | k + 1 => by
  have ih0 := disk_Name.mono_l k
  ·intro y0 y1 y2
   unfold disk_Name.l0
   repeat' first
   | (with_reducible exact ih0 _ _ _)
   | (with_reducible exact LeO.refl _)
   | (with_reducible exact LeO.none _)
   | (with_reducible refine LeO.ite ?_ ?_)
   | (with_reducible refine LeO.bind ?_ (fun _ => ?_))
   | exact ih0 _ _ _
   | exact LeO.none _
   | refine LeO.ite ?_ ?_
   | refine LeO.bind ?_ (fun _ => ?_)
theorem disk_Name.mono : ∀ a0 k, LeO (disk_Name.f k a0) (disk_Name.f (k + 1) a0) := by
 intro a0 k
 have ih0 := disk_Name.mono_l k
 unfold disk_Name.f
 repeat' first
   | (with_reducible exact ih0 _ _ _)
   | (with_reducible exact LeO.refl _)
   | (with_reducible exact LeO.none _)
   | (with_reducible refine LeO.ite ?_ ?_)
   | (with_reducible refine LeO.bind ?_ (fun _ => ?_))
   | exact ih0 _ _ _
   | exact LeO.none _
   | refine LeO.ite ?_ ?_
   | refine LeO.bind ?_ (fun _ => ?_)
set_option maxHeartbeats 8000000 in
set_option maxRecDepth 100000 in
theorem disk_Name.calls (k : Nat) (a0 : ByteArray) (r : Bool) (w : World) (h : disk_Name.f k a0 = some r) :
  Calls Tryz.prog 58 #[.string a0] w fun e w' => e = .returned (.bool r) ∧ Drawn0 w w' := by
 have H : (disk_Name.l0 k a0 (a0.size : Int) 0) = some r := h
 clear h
 have H' := zhaa H
 clear H
 go_enter Tryz.func58, Tryz.ntmps58
 go_wp2
 go_loopg [7] k (fun kq v7 w' => ∃ (zhab : Int), v7 = .int .i64 zhab ∧ Aside0 (disk_Name.l0 kq a0 (a0.size : Int) zhab = some r) ∧ Aside0 (kq ≤ k) ∧ Drawn0 w w')
 case atStart => exact ⟨(0), (by first | rfl | (simp; done) | (simp [*]; done)), H', ⟨Nat.le_refl _⟩, by repeat (first | exact Drawn0.refl _ | apply Drawn0.step)⟩
 case round =>
  clear H'
  obtain ⟨zhab, rfl, HA, HK1, ⟨m1, rfl⟩⟩ := hrel
  cases gk with
  | zero => exact absurd HA.out (by simp [disk_Name.l0])
  | succ k1 =>
   have H := HA.out
   clear HA
   simp only [disk_Name.l0] at H
   by_cases c2 : zhab < (a0.size : Int)
   ·rw [if_pos c2] at H
    have c2b0 : decide (zhab < (a0.size : Int)) = true := decide_eq_true c2
    clear c2
    by_cases c3 : 0 ≤ zhab
    ·rw [if_pos c3] at H
     have c3b0 : decide (0 ≤ zhab) = true := decide_eq_true c3
     clear c3
     by_cases c4 : zhab < (a0.size : Int)
     ·rw [if_pos c4] at H
      have c4b0 : decide (zhab < (a0.size : Int)) = true := decide_eq_true c4
      clear c4
      by_cases c6 : (bt a0 zhab) < 97
      ·rw [if_pos c6] at H
       have c6b0 : decide ((bt a0 zhab) < 97) = true := decide_eq_true c6
       clear c6
       by_cases c7 : (bt a0 zhab) < 48
       ·rw [if_pos c7] at H
        have c7b0 : decide ((bt a0 zhab) < 48) = true := decide_eq_true c7
        clear c7
        by_cases c8 : (bt a0 zhab) = 46
        ·rw [if_pos c8] at H
         have c8b0 : ((bt a0 zhab) == 46) = true := beq_iff_eq.mpr c8
         have c8b1 : ((bt a0 zhab) != 46) = false := bne_eq_false_iff_eq.mpr c8
         clear c8
         have H' := zhaa H
         clear H
         have p5 : 0 ≤ (zhab : Int) := of_decide_eq_true (by first | (with_reducible assumption) | assumption)
         have q5 : zhab < (a0.size : Int) := of_decide_eq_true (by first | (with_reducible assumption) | assumption)
         have hx5 := bt_at a0 zhab
         replace p5 := eq_true p5
         replace q5 := eq_true q5
         go_wp2
         go_roundg k1
         case measure => have := HK1.out; omega
         case rel => exact ⟨(wrap64 (zhab + 1)), (by first | rfl | (simp; done) | (simp [*]; done)), H', ⟨by have := HK1.out; omega⟩, by repeat (first | exact Drawn0.refl _ | apply Drawn0.step)⟩
        ·rw [if_neg c8] at H
         have c8b0 : ((bt a0 zhab) == 46) = false := beq_eq_false_iff_ne.mpr c8
         have c8b1 : ((bt a0 zhab) != 46) = true := bne_iff_ne.mpr c8
         by_cases c9 : (bt a0 zhab) = 45
         ·rw [if_pos c9] at H
          have c9b0 : ((bt a0 zhab) == 45) = true := beq_iff_eq.mpr c9
          have c9b1 : ((bt a0 zhab) != 45) = false := bne_eq_false_iff_eq.mpr c9
          clear c9
          have H' := zhaa H
          clear H
          have p5 : 0 ≤ (zhab : Int) := of_decide_eq_true (by first | (with_reducible assumption) | assumption)
          have q5 : zhab < (a0.size : Int) := of_decide_eq_true (by first | (with_reducible assumption) | assumption)
          have hx5 := bt_at a0 zhab
          replace p5 := eq_true p5
          replace q5 := eq_true q5
          go_wp2
          go_roundg k1
          case measure => have := HK1.out; omega
          case rel => exact ⟨(wrap64 (zhab + 1)), (by first | rfl | (simp; done) | (simp [*]; done)), H', ⟨by have := HK1.out; omega⟩, by repeat (first | exact Drawn0.refl _ | apply Drawn0.step)⟩
         ·rw [if_neg c9] at H
          have c9b0 : ((bt a0 zhab) == 45) = false := beq_eq_false_iff_ne.mpr c9
          have c9b1 : ((bt a0 zhab) != 45) = true := bne_iff_ne.mpr c9
          obtain rfl := Option.some.inj H
          have p5 : 0 ≤ (zhab : Int) := of_decide_eq_true (by first | (with_reducible assumption) | assumption)
          have q5 : zhab < (a0.size : Int) := of_decide_eq_true (by first | (with_reducible assumption) | assumption)
          have hx5 := bt_at a0 zhab
          replace p5 := eq_true p5
          replace q5 := eq_true q5
          go_wp2
          go_ret
          exact ⟨by first | rfl | (simp; done) | (simp [*]; done), by repeat (first | exact Drawn0.refl _ | apply Drawn0.step)⟩
       ·rw [if_neg c7] at H
        have c7b0 : decide ((bt a0 zhab) < 48) = false := decide_eq_false c7
        clear c7
        by_cases c10 : (bt a0 zhab) > 57
        ·rw [if_pos c10] at H
         have c10b0 : decide (57 < (bt a0 zhab)) = true := decide_eq_true c10
         clear c10
         by_cases c11 : (bt a0 zhab) = 46
         ·rw [if_pos c11] at H
          have c11b0 : ((bt a0 zhab) == 46) = true := beq_iff_eq.mpr c11
          have c11b1 : ((bt a0 zhab) != 46) = false := bne_eq_false_iff_eq.mpr c11
          clear c11
          have H' := zhaa H
          clear H
          have p5 : 0 ≤ (zhab : Int) := of_decide_eq_true (by first | (with_reducible assumption) | assumption)
          have q5 : zhab < (a0.size : Int) := of_decide_eq_true (by first | (with_reducible assumption) | assumption)
          have hx5 := bt_at a0 zhab
          replace p5 := eq_true p5
          replace q5 := eq_true q5
          go_wp2
          go_roundg k1
          case measure => have := HK1.out; omega
          case rel => exact ⟨(wrap64 (zhab + 1)), (by first | rfl | (simp; done) | (simp [*]; done)), H', ⟨by have := HK1.out; omega⟩, by repeat (first | exact Drawn0.refl _ | apply Drawn0.step)⟩
         ·rw [if_neg c11] at H
          have c11b0 : ((bt a0 zhab) == 46) = false := beq_eq_false_iff_ne.mpr c11
          have c11b1 : ((bt a0 zhab) != 46) = true := bne_iff_ne.mpr c11
          by_cases c12 : (bt a0 zhab) = 45
          ·rw [if_pos c12] at H
           have c12b0 : ((bt a0 zhab) == 45) = true := beq_iff_eq.mpr c12
           have c12b1 : ((bt a0 zhab) != 45) = false := bne_eq_false_iff_eq.mpr c12
           clear c12
           have H' := zhaa H
           clear H
           have p5 : 0 ≤ (zhab : Int) := of_decide_eq_true (by first | (with_reducible assumption) | assumption)
           have q5 : zhab < (a0.size : Int) := of_decide_eq_true (by first | (with_reducible assumption) | assumption)
           have hx5 := bt_at a0 zhab
           replace p5 := eq_true p5
           replace q5 := eq_true q5
           go_wp2
           go_roundg k1
           case measure => have := HK1.out; omega
           case rel => exact ⟨(wrap64 (zhab + 1)), (by first | rfl | (simp; done) | (simp [*]; done)), H', ⟨by have := HK1.out; omega⟩, by repeat (first | exact Drawn0.refl _ | apply Drawn0.step)⟩
          ·rw [if_neg c12] at H
           have c12b0 : ((bt a0 zhab) == 45) = false := beq_eq_false_iff_ne.mpr c12
           have c12b1 : ((bt a0 zhab) != 45) = true := bne_iff_ne.mpr c12
           obtain rfl := Option.some.inj H
           have p5 : 0 ≤ (zhab : Int) := of_decide_eq_true (by first | (with_reducible assumption) | assumption)
           have q5 : zhab < (a0.size : Int) := of_decide_eq_true (by first | (with_reducible assumption) | assumption)
           have hx5 := bt_at a0 zhab
           replace p5 := eq_true p5
           replace q5 := eq_true q5
           go_wp2
           go_ret
           exact ⟨by first | rfl | (simp; done) | (simp [*]; done), by repeat (first | exact Drawn0.refl _ | apply Drawn0.step)⟩
        ·rw [if_neg c10] at H
         have c10b0 : decide (57 < (bt a0 zhab)) = false := decide_eq_false c10
         clear c10
         have H' := zhaa H
         clear H
         have p5 : 0 ≤ (zhab : Int) := of_decide_eq_true (by first | (with_reducible assumption) | assumption)
         have q5 : zhab < (a0.size : Int) := of_decide_eq_true (by first | (with_reducible assumption) | assumption)
         have hx5 := bt_at a0 zhab
         replace p5 := eq_true p5
         replace q5 := eq_true q5
         go_wp2
         go_roundg k1
         case measure => have := HK1.out; omega
         case rel => exact ⟨(wrap64 (zhab + 1)), (by first | rfl | (simp; done) | (simp [*]; done)), H', ⟨by have := HK1.out; omega⟩, by repeat (first | exact Drawn0.refl _ | apply Drawn0.step)⟩
      ·rw [if_neg c6] at H
       have c6b0 : decide ((bt a0 zhab) < 97) = false := decide_eq_false c6
       clear c6
       by_cases c13 : (bt a0 zhab) > 122
       ·rw [if_pos c13] at H
        have c13b0 : decide (122 < (bt a0 zhab)) = true := decide_eq_true c13
        clear c13
        by_cases c14 : (bt a0 zhab) < 48
        ·rw [if_pos c14] at H
         have c14b0 : decide ((bt a0 zhab) < 48) = true := decide_eq_true c14
         clear c14
         by_cases c15 : (bt a0 zhab) = 46
         ·rw [if_pos c15] at H
          have c15b0 : ((bt a0 zhab) == 46) = true := beq_iff_eq.mpr c15
          have c15b1 : ((bt a0 zhab) != 46) = false := bne_eq_false_iff_eq.mpr c15
          clear c15
          have H' := zhaa H
          clear H
          have p5 : 0 ≤ (zhab : Int) := of_decide_eq_true (by first | (with_reducible assumption) | assumption)
          have q5 : zhab < (a0.size : Int) := of_decide_eq_true (by first | (with_reducible assumption) | assumption)
          have hx5 := bt_at a0 zhab
          replace p5 := eq_true p5
          replace q5 := eq_true q5
          go_wp2
          go_roundg k1
          case measure => have := HK1.out; omega
          case rel => exact ⟨(wrap64 (zhab + 1)), (by first | rfl | (simp; done) | (simp [*]; done)), H', ⟨by have := HK1.out; omega⟩, by repeat (first | exact Drawn0.refl _ | apply Drawn0.step)⟩
         ·rw [if_neg c15] at H
          have c15b0 : ((bt a0 zhab) == 46) = false := beq_eq_false_iff_ne.mpr c15
          have c15b1 : ((bt a0 zhab) != 46) = true := bne_iff_ne.mpr c15
          by_cases c16 : (bt a0 zhab) = 45
          ·rw [if_pos c16] at H
           have c16b0 : ((bt a0 zhab) == 45) = true := beq_iff_eq.mpr c16
           have c16b1 : ((bt a0 zhab) != 45) = false := bne_eq_false_iff_eq.mpr c16
           clear c16
           have H' := zhaa H
           clear H
           have p5 : 0 ≤ (zhab : Int) := of_decide_eq_true (by first | (with_reducible assumption) | assumption)
           have q5 : zhab < (a0.size : Int) := of_decide_eq_true (by first | (with_reducible assumption) | assumption)
           have hx5 := bt_at a0 zhab
           replace p5 := eq_true p5
           replace q5 := eq_true q5
           go_wp2
           go_roundg k1
           case measure => have := HK1.out; omega
           case rel => exact ⟨(wrap64 (zhab + 1)), (by first | rfl | (simp; done) | (simp [*]; done)), H', ⟨by have := HK1.out; omega⟩, by repeat (first | exact Drawn0.refl _ | apply Drawn0.step)⟩
          ·rw [if_neg c16] at H
           have c16b0 : ((bt a0 zhab) == 45) = false := beq_eq_false_iff_ne.mpr c16
           have c16b1 : ((bt a0 zhab) != 45) = true := bne_iff_ne.mpr c16
           obtain rfl := Option.some.inj H
           have p5 : 0 ≤ (zhab : Int) := of_decide_eq_true (by first | (with_reducible assumption) | assumption)
           have q5 : zhab < (a0.size : Int) := of_decide_eq_true (by first | (with_reducible assumption) | assumption)
           have hx5 := bt_at a0 zhab
           replace p5 := eq_true p5
           replace q5 := eq_true q5
           go_wp2
           go_ret
           exact ⟨by first | rfl | (simp; done) | (simp [*]; done), by repeat (first | exact Drawn0.refl _ | apply Drawn0.step)⟩
        ·rw [if_neg c14] at H
         have c14b0 : decide ((bt a0 zhab) < 48) = false := decide_eq_false c14
         clear c14
         by_cases c17 : (bt a0 zhab) > 57
         ·rw [if_pos c17] at H
          have c17b0 : decide (57 < (bt a0 zhab)) = true := decide_eq_true c17
          clear c17
          by_cases c18 : (bt a0 zhab) = 46
          ·rw [if_pos c18] at H
           have c18b0 : ((bt a0 zhab) == 46) = true := beq_iff_eq.mpr c18
           have c18b1 : ((bt a0 zhab) != 46) = false := bne_eq_false_iff_eq.mpr c18
           clear c18
           have H' := zhaa H
           clear H
           have p5 : 0 ≤ (zhab : Int) := of_decide_eq_true (by first | (with_reducible assumption) | assumption)
           have q5 : zhab < (a0.size : Int) := of_decide_eq_true (by first | (with_reducible assumption) | assumption)
           have hx5 := bt_at a0 zhab
           replace p5 := eq_true p5
           replace q5 := eq_true q5
           go_wp2
           go_roundg k1
           case measure => have := HK1.out; omega
           case rel => exact ⟨(wrap64 (zhab + 1)), (by first | rfl | (simp; done) | (simp [*]; done)), H', ⟨by have := HK1.out; omega⟩, by repeat (first | exact Drawn0.refl _ | apply Drawn0.step)⟩
          ·rw [if_neg c18] at H
           have c18b0 : ((bt a0 zhab) == 46) = false := beq_eq_false_iff_ne.mpr c18
           have c18b1 : ((bt a0 zhab) != 46) = true := bne_iff_ne.mpr c18
           by_cases c19 : (bt a0 zhab) = 45
           ·rw [if_pos c19] at H
            have c19b0 : ((bt a0 zhab) == 45) = true := beq_iff_eq.mpr c19
            have c19b1 : ((bt a0 zhab) != 45) = false := bne_eq_false_iff_eq.mpr c19
            clear c19
            have H' := zhaa H
            clear H
            have p5 : 0 ≤ (zhab : Int) := of_decide_eq_true (by first | (with_reducible assumption) | assumption)
            have q5 : zhab < (a0.size : Int) := of_decide_eq_true (by first | (with_reducible assumption) | assumption)
            have hx5 := bt_at a0 zhab
            replace p5 := eq_true p5
            replace q5 := eq_true q5
            go_wp2
            go_roundg k1
            case measure => have := HK1.out; omega
            case rel => exact ⟨(wrap64 (zhab + 1)), (by first | rfl | (simp; done) | (simp [*]; done)), H', ⟨by have := HK1.out; omega⟩, by repeat (first | exact Drawn0.refl _ | apply Drawn0.step)⟩
           ·rw [if_neg c19] at H
            have c19b0 : ((bt a0 zhab) == 45) = false := beq_eq_false_iff_ne.mpr c19
            have c19b1 : ((bt a0 zhab) != 45) = true := bne_iff_ne.mpr c19
            obtain rfl := Option.some.inj H
            have p5 : 0 ≤ (zhab : Int) := of_decide_eq_true (by first | (with_reducible assumption) | assumption)
            have q5 : zhab < (a0.size : Int) := of_decide_eq_true (by first | (with_reducible assumption) | assumption)
            have hx5 := bt_at a0 zhab
            replace p5 := eq_true p5
            replace q5 := eq_true q5
            go_wp2
            go_ret
            exact ⟨by first | rfl | (simp; done) | (simp [*]; done), by repeat (first | exact Drawn0.refl _ | apply Drawn0.step)⟩
         ·rw [if_neg c17] at H
          have c17b0 : decide (57 < (bt a0 zhab)) = false := decide_eq_false c17
          clear c17
          have H' := zhaa H
          clear H
          have p5 : 0 ≤ (zhab : Int) := of_decide_eq_true (by first | (with_reducible assumption) | assumption)
          have q5 : zhab < (a0.size : Int) := of_decide_eq_true (by first | (with_reducible assumption) | assumption)
          have hx5 := bt_at a0 zhab
          replace p5 := eq_true p5
          replace q5 := eq_true q5
          go_wp2
          go_roundg k1
          case measure => have := HK1.out; omega
          case rel => exact ⟨(wrap64 (zhab + 1)), (by first | rfl | (simp; done) | (simp [*]; done)), H', ⟨by have := HK1.out; omega⟩, by repeat (first | exact Drawn0.refl _ | apply Drawn0.step)⟩
       ·rw [if_neg c13] at H
        have c13b0 : decide (122 < (bt a0 zhab)) = false := decide_eq_false c13
        clear c13
        have H' := zhaa H
        clear H
        have p5 : 0 ≤ (zhab : Int) := of_decide_eq_true (by first | (with_reducible assumption) | assumption)
        have q5 : zhab < (a0.size : Int) := of_decide_eq_true (by first | (with_reducible assumption) | assumption)
        have hx5 := bt_at a0 zhab
        replace p5 := eq_true p5
        replace q5 := eq_true q5
        go_wp2
        go_roundg k1
        case measure => have := HK1.out; omega
        case rel => exact ⟨(wrap64 (zhab + 1)), (by first | rfl | (simp; done) | (simp [*]; done)), H', ⟨by have := HK1.out; omega⟩, by repeat (first | exact Drawn0.refl _ | apply Drawn0.step)⟩
     ·rw [if_neg c4] at H
      exact absurd H (by simp)
    ·rw [if_neg c3] at H
     exact absurd H (by simp)
   ·rw [if_neg c2] at H
    have c2b0 : decide (zhab < (a0.size : Int)) = false := decide_eq_false c2
    clear c2
    by_cases c20 : (a0.size : Int) > 0
    ·rw [if_pos c20] at H
     have c20b0 : decide (0 < (a0.size : Int)) = true := decide_eq_true c20
     have c20b1 : decide (0 < a0.size) = true := decide_eq_true (by omega)
     clear c20
     obtain rfl := Option.some.inj H
     go_wp2
     go_ret
     exact ⟨by first | rfl | (simp; done) | (simp [*]; done), by repeat (first | exact Drawn0.refl _ | apply Drawn0.step)⟩
    ·rw [if_neg c20] at H
     have c20b0 : decide (0 < (a0.size : Int)) = false := decide_eq_false c20
     have c20b1 : decide (0 < a0.size) = false := decide_eq_false (by omega)
     clear c20
     obtain rfl := Option.some.inj H
     go_wp2
     go_ret
     exact ⟨by first | rfl | (simp; done) | (simp [*]; done), by repeat (first | exact Drawn0.refl _ | apply Drawn0.step)⟩

-- NOT PRINTED: function 32 (disk_Disk_ask)

-- NOT PRINTED: function 14 (disk_Disk_Read)

-- NOT PRINTED: function 92 (slices_AppendSeq_string_string)

-- NOT PRINTED: function 75 (slices_Collect_string)
/-! ### cmp_isNaN_string: function 115 -/
/-! ### cmp_Less_string: function 105 -/
end Go.Proofs.YtpgbkeaaklglkaaGreatDoor.Q