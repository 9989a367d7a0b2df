

/- Functions of the given program, printed: pieces, parts that may be, parts of one's own. -/
import Derived.Test.YtpgbkeaaklglkaaGreatDoorQ7
import Derived.Test.YtpgbkeaaklglkaaGreatDoorPg
noncomputable section
namespace Go.Proofs.YtpgbkeaaklglkaaGreatDoor.Q
open Go.RowKit Go.Proofs.YtpgbkeaaklglkaaGreatDoorW.PrintWords Go.Proofs.YtpgbkeaaklglkaaGreatDoorW.PrintLast Go.Proofs.YtpgbkeaaklglkaaGreatDoorW.PrintMore
attribute [local go_sem] max2_int min2_int max_two min_two max_three min_three max_four min_four   -- for this text's walks alone
set_option linter.unusedVariables false
set_option linter.unusedSimpArgs false
attribute [local go_sem] xor_ones_u8 xor_ones_u16 xor_ones_u32 xor_ones_u64 cell_twice frozen_twice
-- NOT PRINTED: function 4 (extent_Open)

-- NOT PRINTED: function 5 (disk_New)
abbrev zaaa := @List.setIfInBounds_toArray
abbrev zaab := @List.set_cons_zero
abbrev zaac := @List.set_cons_succ
abbrev zaad := @World.block_lt_of_cell?
abbrev zaae := @blk_drewN
abbrev zaaf := @blk_alloc
abbrev zaag := @blk_drew
abbrev zaah := @below_set
abbrev zaai := @pw_below_drewN
abbrev zaaj := @below_drew1
abbrev zaak := @below_alloc
abbrev zaal := @blk_cell
abbrev zaam := @blk_frozen
abbrev zaan := @List.map_toArray
abbrev zaao := @List.map_cons
abbrev zaap := @List.map_nil
abbrev zaaq := @Aside0.mk
abbrev zasq0 : Array Bool := #[false, false, false, false, false, false, false, false, false, false, false, false, false, false, false, false, false, false]
abbrev zasq1 : Array Bool := #[true, false, false, false, false, false, false, false, false, false, false, false, false, false, false, false, false, false]
abbrev zasq2 : Array Bool := #[true, true, false, false, false, false, false, false, false, false, false, false, false, false, false, false, false, false]
abbrev zasq3 : Array Bool := #[true, true, true, false, false, false, false, false, false, false, false, false, false, false, false, false, false, false]
abbrev zasq4 : Array Bool := #[true, true, true, true, false, false, false, false, false, false, false, false, false, false, false, false, false, false]
abbrev zasq5 : Array Bool := #[true, true, true, true, true, false, false, false, false, false, false, false, false, false, false, false, false, false]
abbrev zasq6 : Array Bool := #[true, true, true, true, true, true, false, false, false, false, false, false, false, false, false, false, false, false]
abbrev zasq7 : Array Bool := #[true, true, true, true, true, true, true, false, false, false, false, false, false, false, false, false, false, false]
abbrev zasq8 : Array Bool := #[true, true, true, true, true, true, true, true, false, false, false, false, false, false, false, false, false, false]
abbrev zasq9 : Array Bool := #[true, true, true, true, true, true, true, true, false, true, false, false, false, false, false, false, false, false]
abbrev zasq10 : Array Bool := #[true, true, true, true, true, true, true, true, false, true, true, false, false, false, false, false, false, false]
abbrev zasq11 : Array Bool := #[true, true, true, true, true, true, true, true, false, true, true, true, false, false, false, false, false, false]
abbrev zasq12 : Array Bool := #[true, true, true, true, true, true, true, true, false, true, true, true, true, false, false, false, false, false]
abbrev zasq13 : Array Bool := #[true, true, true, true, true, true, true, true, false, true, true, true, true, true, false, false, false, false]
abbrev zasq14 : Array Bool := #[true, true, true, true, true, true, true, true, true, true, true, true, true, true, false, false, false, false]
abbrev zasq15 : Array Bool := #[true, true, true, true, true, true, true, true, true, true, true, true, true, true, true, false, false, false]
abbrev zasq16 : Array Bool := #[true, true, true, true, true, true, true, true, true, true, true, true, true, true, true, true, false, false]
abbrev zasq17 : Array Bool := #[true, true, true, true, true, true, true, true, true, true, true, true, true, true, true, true, true, false]
abbrev zasq18 : Array Bool := #[true, true, true, true, true, true, true, true, true, true, true, true, true, true, true, true, true, true]
abbrev zasq19 : Array Bool := #[true, true, true, true, true, true, true, true, true, false, false, false, false, false, false, false, false, false]
abbrev zasq20 : Array Bool := #[true, true, true, true, true, true, true, true, true, true, false, false, false, false, false, false, false, false]
abbrev zasq21 : Array Bool := #[true, true, true, true, true, true, true, true, true, true, true, false, false, false, false, false, false, false]
abbrev zasq22 : Array Bool := #[true, true, true, true, true, true, true, true, true, true, true, true, false, false, false, false, false, false]
abbrev zasq23 : Array Bool := #[true, true, true, true, true, true, true, true, true, true, true, true, true, false, false, false, false, false]
/-! ### chain_digits: function 70 -/
def chain_digits.l0 : Nat → ByteArray → Int → Int → Option (Bool)
 | 0, _, _, _ => none
 | k + 1, x0, x5, x6 => if x6 < x5 then (if 0 ≤ x6 then (if x6 < (x0.size : Int) then (if (bt x0 x6) < 48 then (if (bt x0 x6) < 97 then (some false) else (if (bt x0 x6) > 102 then (some false) else (chain_digits.l0 k x0 x5 (wrap64 (x6 + 1))))) else (if (bt x0 x6) > 57 then (if (bt x0 x6) < 97 then (some false) else (if (bt x0 x6) > 102 then (some false) else (chain_digits.l0 k x0 x5 (wrap64 (x6 + 1))))) else (chain_digits.l0 k x0 x5 (wrap64 (x6 + 1))))) else (none)) else (none)) else (some ((x0.size : Int) == 64))
def chain_digits.f (k : Nat) (a0 : ByteArray) : Option (Bool) := chain_digits.l0 k a0 (a0.size : Int) 0
theorem chain_digits.mono_l : ∀ k, (∀ y0 y1 y2, LeO (chain_digits.l0 k y0 y1 y2) (chain_digits.l0 (k + 1) y0 y1 y2))
 | 0 => fun _ _ _ r h => by simp [chain_digits.l0] at h
 | k + 1 => by
  have ih0 := chain_digits.mono_l k
  ·intro y0 y1 y2
   unfold chain_digits.l0
   repeat' first
   | (with_reducible exact ih0 _ _ _)
   | (with_reducible exact LeO.refl _)
   | (with_reducible exact LeO.none _)
   | (with_reducible refine LeO.ite ?_ ?_)
   | (with_reducible refine LeO.bind ?_ (fun _ => ?_))
   | exact ih0 _ _ _
   | exact LeO.none _
   | refine LeO.ite ?_ ?_
   | refine LeO.bind ?_ (fun _ => ?_)
theorem chain_digits.mono : ∀ a0 k, LeO (chain_digits.f k a0) (chain_digits.f (k + 1) a0) := by
 intro a0 k
 have ih0 := chain_digits.mono_l k
 unfold chain_digits.f
 repeat' first
   | (with_reducible exact ih0 _ _ _)
   | (with_reducible exact LeO.refl _)
   | (with_reducible exact LeO.none _)
   | (with_reducible refine LeO.ite ?_ ?_)
   | (with_reducible refine LeO.bind ?_ (fun _ => ?_))
   | exact ih0 _ _ _
   | exact LeO.none _
   | refine LeO.ite ?_ ?_
   | refine LeO.bind ?_ (fun _ => ?_)
set_option maxHeartbeats 8000000 in
set_option maxRecDepth 100000 in
theorem chain_digits.calls (k : Nat) (a0 : ByteArray) (r : Bool) (w : World) (h : chain_digits.f k a0 = some r) :
  Calls Tryz.prog 70 #[.string a0] w fun e w' => e = .returned (.bool r) ∧ Drawn0 w w' := by
 have H : (chain_digits.l0 k a0 (a0.size : Int) 0) = some r := h
 clear h
 have H' := zaaq H
 clear H
 go_enter Tryz.func70, Tryz.ntmps70
 go_wp2
 go_loopg [6] k (fun kq v6 w' => ∃ (zaav : Int), v6 = .int .i64 zaav ∧ Aside0 (chain_digits.l0 kq a0 (a0.size : Int) zaav = some r) ∧ Aside0 (kq ≤ k) ∧ Drawn0 w w')
 case atStart => exact ⟨(0), (by first | rfl | (simp; done) | (simp [*]; done)), H', ⟨Nat.le_refl _⟩, by repeat (first | exact Drawn0.refl _ | apply Drawn0.step)⟩
 case round =>
  clear H'
  obtain ⟨zaav, rfl, HA, HK1, ⟨m1, rfl⟩⟩ := hrel
  cases gk with
  | zero => exact absurd HA.out (by simp [chain_digits.l0])
  | succ k1 =>
   have H := HA.out
   clear HA
   simp only [chain_digits.l0] at H
   by_cases c2 : zaav < (a0.size : Int)
   ·rw [if_pos c2] at H
    have c2b0 : decide (zaav < (a0.size : Int)) = true := decide_eq_true c2
    clear c2
    by_cases c3 : 0 ≤ zaav
    ·rw [if_pos c3] at H
     have c3b0 : decide (0 ≤ zaav) = true := decide_eq_true c3
     clear c3
     by_cases c4 : zaav < (a0.size : Int)
     ·rw [if_pos c4] at H
      have c4b0 : decide (zaav < (a0.size : Int)) = true := decide_eq_true c4
      clear c4
      by_cases c6 : (bt a0 zaav) < 48
      ·rw [if_pos c6] at H
       have c6b0 : decide ((bt a0 zaav) < 48) = true := decide_eq_true c6
       clear c6
       by_cases c8 : (bt a0 zaav) < 97
       ·rw [if_pos c8] at H
        have c8b0 : decide ((bt a0 zaav) < 97) = true := decide_eq_true c8
        clear c8
        obtain rfl := Option.some.inj H
        have p5 : 0 ≤ (zaav : Int) := of_decide_eq_true (by first | (with_reducible assumption) | assumption)
        have q5 : zaav < (a0.size : Int) := of_decide_eq_true (by first | (with_reducible assumption) | assumption)
        have hx5 := bt_at a0 zaav
        replace p5 := eq_true p5
        replace q5 := eq_true q5
        have p7 : 0 ≤ (zaav : Int) := of_decide_eq_true (by first | (with_reducible assumption) | assumption)
        have q7 : zaav < (a0.size : Int) := of_decide_eq_true (by first | (with_reducible assumption) | assumption)
        have hx7 := bt_at a0 zaav
        replace p7 := eq_true p7
        replace q7 := eq_true q7
        go_wp2
        go_ret
        exact ⟨by first | rfl | (simp; done) | (simp [*]; done), by repeat (first | exact Drawn0.refl _ | apply Drawn0.step)⟩
       ·rw [if_neg c8] at H
        have c8b0 : decide ((bt a0 zaav) < 97) = false := decide_eq_false c8
        clear c8
        by_cases c10 : (bt a0 zaav) > 102
        ·rw [if_pos c10] at H
         have c10b0 : decide (102 < (bt a0 zaav)) = true := decide_eq_true c10
         clear c10
         obtain rfl := Option.some.inj H
         have p5 : 0 ≤ (zaav : Int) := of_decide_eq_true (by first | (with_reducible assumption) | assumption)
         have q5 : zaav < (a0.size : Int) := of_decide_eq_true (by first | (with_reducible assumption) | assumption)
         have hx5 := bt_at a0 zaav
         replace p5 := eq_true p5
         replace q5 := eq_true q5
         have p7 : 0 ≤ (zaav : Int) := of_decide_eq_true (by first | (with_reducible assumption) | assumption)
         have q7 : zaav < (a0.size : Int) := of_decide_eq_true (by first | (with_reducible assumption) | assumption)
         have hx7 := bt_at a0 zaav
         replace p7 := eq_true p7
         replace q7 := eq_true q7
         have p9 : 0 ≤ (zaav : Int) := of_decide_eq_true (by first | (with_reducible assumption) | assumption)
         have q9 : zaav < (a0.size : Int) := of_decide_eq_true (by first | (with_reducible assumption) | assumption)
         have hx9 := bt_at a0 zaav
         replace p9 := eq_true p9
         replace q9 := eq_true q9
         go_wp2
         go_ret
         exact ⟨by first | rfl | (simp; done) | (simp [*]; done), by repeat (first | exact Drawn0.refl _ | apply Drawn0.step)⟩
        ·rw [if_neg c10] at H
         have c10b0 : decide (102 < (bt a0 zaav)) = false := decide_eq_false c10
         clear c10
         have H' := zaaq H
         clear H
         have p5 : 0 ≤ (zaav : Int) := of_decide_eq_true (by first | (with_reducible assumption) | assumption)
         have q5 : zaav < (a0.size : Int) := of_decide_eq_true (by first | (with_reducible assumption) | assumption)
         have hx5 := bt_at a0 zaav
         replace p5 := eq_true p5
         replace q5 := eq_true q5
         have p7 : 0 ≤ (zaav : Int) := of_decide_eq_true (by first | (with_reducible assumption) | assumption)
         have q7 : zaav < (a0.size : Int) := of_decide_eq_true (by first | (with_reducible assumption) | assumption)
         have hx7 := bt_at a0 zaav
         replace p7 := eq_true p7
         replace q7 := eq_true q7
         have p9 : 0 ≤ (zaav : Int) := of_decide_eq_true (by first | (with_reducible assumption) | assumption)
         have q9 : zaav < (a0.size : Int) := of_decide_eq_true (by first | (with_reducible assumption) | assumption)
         have hx9 := bt_at a0 zaav
         replace p9 := eq_true p9
         replace q9 := eq_true q9
         go_wp2
         go_roundg k1
         case measure => have := HK1.out; omega
         case rel => exact ⟨(wrap64 (zaav + 1)), (by first | rfl | (simp; done) | (simp [*]; done)), H', ⟨by have := HK1.out; omega⟩, by repeat (first | exact Drawn0.refl _ | apply Drawn0.step)⟩
      ·rw [if_neg c6] at H
       have c6b0 : decide ((bt a0 zaav) < 48) = false := decide_eq_false c6
       clear c6
       by_cases c12 : (bt a0 zaav) > 57
       ·rw [if_pos c12] at H
        have c12b0 : decide (57 < (bt a0 zaav)) = true := decide_eq_true c12
        clear c12
        by_cases c14 : (bt a0 zaav) < 97
        ·rw [if_pos c14] at H
         have c14b0 : decide ((bt a0 zaav) < 97) = true := decide_eq_true c14
         clear c14
         obtain rfl := Option.some.inj H
         have p5 : 0 ≤ (zaav : Int) := of_decide_eq_true (by first | (with_reducible assumption) | assumption)
         have q5 : zaav < (a0.size : Int) := of_decide_eq_true (by first | (with_reducible assumption) | assumption)
         have hx5 := bt_at a0 zaav
         replace p5 := eq_true p5
         replace q5 := eq_true q5
         have p11 : 0 ≤ (zaav : Int) := of_decide_eq_true (by first | (with_reducible assumption) | assumption)
         have q11 : zaav < (a0.size : Int) := of_decide_eq_true (by first | (with_reducible assumption) | assumption)
         have hx11 := bt_at a0 zaav
         replace p11 := eq_true p11
         replace q11 := eq_true q11
         have p13 : 0 ≤ (zaav : Int) := of_decide_eq_true (by first | (with_reducible assumption) | assumption)
         have q13 : zaav < (a0.size : Int) := of_decide_eq_true (by first | (with_reducible assumption) | assumption)
         have hx13 := bt_at a0 zaav
         replace p13 := eq_true p13
         replace q13 := eq_true q13
         go_wp2
         go_ret
         exact ⟨by first | rfl | (simp; done) | (simp [*]; done), by repeat (first | exact Drawn0.refl _ | apply Drawn0.step)⟩
        ·rw [if_neg c14] at H
         have c14b0 : decide ((bt a0 zaav) < 97) = false := decide_eq_false c14
         clear c14
         by_cases c16 : (bt a0 zaav) > 102
         ·rw [if_pos c16] at H
          have c16b0 : decide (102 < (bt a0 zaav)) = true := decide_eq_true c16
          clear c16
          obtain rfl := Option.some.inj H
          have p5 : 0 ≤ (zaav : Int) := of_decide_eq_true (by first | (with_reducible assumption) | assumption)
          have q5 : zaav < (a0.size : Int) := of_decide_eq_true (by first | (with_reducible assumption) | assumption)
          have hx5 := bt_at a0 zaav
          replace p5 := eq_true p5
          replace q5 := eq_true q5
          have p11 : 0 ≤ (zaav : Int) := of_decide_eq_true (by first | (with_reducible assumption) | assumption)
          have q11 : zaav < (a0.size : Int) := of_decide_eq_true (by first | (with_reducible assumption) | assumption)
          have hx11 := bt_at a0 zaav
          replace p11 := eq_true p11
          replace q11 := eq_true q11
          have p13 : 0 ≤ (zaav : Int) := of_decide_eq_true (by first | (with_reducible assumption) | assumption)
          have q13 : zaav < (a0.size : Int) := of_decide_eq_true (by first | (with_reducible assumption) | assumption)
          have hx13 := bt_at a0 zaav
          replace p13 := eq_true p13
          replace q13 := eq_true q13
          have p15 : 0 ≤ (zaav : Int) := of_decide_eq_true (by first | (with_reducible assumption) | assumption)
          have q15 : zaav < (a0.size : Int) := of_decide_eq_true (by first | (with_reducible assumption) | assumption)
          have hx15 := bt_at a0 zaav
          replace p15 := eq_true p15
          replace q15 := eq_true q15
          go_wp2
          go_ret
          exact ⟨by first | rfl | (simp; done) | (simp [*]; done), by repeat (first | exact Drawn0.refl _ | apply Drawn0.step)⟩
         ·rw [if_neg c16] at H
          have c16b0 : decide (102 < (bt a0 zaav)) = false := decide_eq_false c16
          clear c16
          have H' := zaaq H
          clear H
          have p5 : 0 ≤ (zaav : Int) := of_decide_eq_true (by first | (with_reducible assumption) | assumption)
          have q5 : zaav < (a0.size : Int) := of_decide_eq_true (by first | (with_reducible assumption) | assumption)
          have hx5 := bt_at a0 zaav
          replace p5 := eq_true p5
          replace q5 := eq_true q5
          have p11 : 0 ≤ (zaav : Int) := of_decide_eq_true (by first | (with_reducible assumption) | assumption)
          have q11 : zaav < (a0.size : Int) := of_decide_eq_true (by first | (with_reducible assumption) | assumption)
          have hx11 := bt_at a0 zaav
          replace p11 := eq_true p11
          replace q11 := eq_true q11
          have p13 : 0 ≤ (zaav : Int) := of_decide_eq_true (by first | (with_reducible assumption) | assumption)
          have q13 : zaav < (a0.size : Int) := of_decide_eq_true (by first | (with_reducible assumption) | assumption)
          have hx13 := bt_at a0 zaav
          replace p13 := eq_true p13
          replace q13 := eq_true q13
          have p15 : 0 ≤ (zaav : Int) := of_decide_eq_true (by first | (with_reducible assumption) | assumption)
          have q15 : zaav < (a0.size : Int) := of_decide_eq_true (by first | (with_reducible assumption) | assumption)
          have hx15 := bt_at a0 zaav
          replace p15 := eq_true p15
          replace q15 := eq_true q15
          go_wp2
          go_roundg k1
          case measure => have := HK1.out; omega
          case rel => exact ⟨(wrap64 (zaav + 1)), (by first | rfl | (simp; done) | (simp [*]; done)), H', ⟨by have := HK1.out; omega⟩, by repeat (first | exact Drawn0.refl _ | apply Drawn0.step)⟩
       ·rw [if_neg c12] at H
        have c12b0 : decide (57 < (bt a0 zaav)) = false := decide_eq_false c12
        clear c12
        have H' := zaaq H
        clear H
        have p5 : 0 ≤ (zaav : Int) := of_decide_eq_true (by first | (with_reducible assumption) | assumption)
        have q5 : zaav < (a0.size : Int) := of_decide_eq_true (by first | (with_reducible assumption) | assumption)
        have hx5 := bt_at a0 zaav
        replace p5 := eq_true p5
        replace q5 := eq_true q5
        have p11 : 0 ≤ (zaav : Int) := of_decide_eq_true (by first | (with_reducible assumption) | assumption)
        have q11 : zaav < (a0.size : Int) := of_decide_eq_true (by first | (with_reducible assumption) | assumption)
        have hx11 := bt_at a0 zaav
        replace p11 := eq_true p11
        replace q11 := eq_true q11
        go_wp2
        go_roundg k1
        case measure => have := HK1.out; omega
        case rel => exact ⟨(wrap64 (zaav + 1)), (by first | rfl | (simp; done) | (simp [*]; done)), H', ⟨by have := HK1.out; omega⟩, by repeat (first | exact Drawn0.refl _ | apply Drawn0.step)⟩
     ·rw [if_neg c4] at H
      exact absurd H (by simp)
    ·rw [if_neg c3] at H
     exact absurd H (by simp)
   ·rw [if_neg c2] at H
    have c2b0 : decide (zaav < (a0.size : Int)) = false := decide_eq_false c2
    clear c2
    obtain rfl := Option.some.inj H
    go_wp2
    go_ret
    exact ⟨by first | rfl | (simp; done) | (simp [*]; done), by repeat (first | exact Drawn0.refl _ | apply Drawn0.step)⟩
/-! ### chain_Pieces: function 48 -/
def chain_Pieces.l0 : Nat → Int → List (S65) → Int → Int → Option (Int × Int)
 | 0, _, _, _, _ => none
 | k + 1, x4, x10, x11, x12 => if x12 < x11 then (if 0 ≤ x12 then (if x12 < (x10.length : Int) then ((chain_digits.f k ((rd_T65 x10 x12).f0)).bind fun t277 => (if t277 = true then (if ((rd_T65 x10 x12).f1) < 1 then (some (0, 1)) else (if ((rd_T65 x10 x12).f1) > 4096 then (some (0, 1)) else (chain_Pieces.l0 k (wrap64 (x4 + ((rd_T65 x10 x12).f1))) x10 x11 (wrap64 (x12 + 1))))) else (some (0, 1)))) else (none)) else (none)) else (some (x4, 0))
def chain_Pieces.f (k : Nat) (l0 : List (S65)) : Option (Int × Int) := if (l0.length : Int) > 512 then (some (0, 1)) else (chain_Pieces.l0 k 0 l0 (l0.length : Int) 0)
theorem chain_Pieces.mono_l : ∀ k, (∀ y0 y1 y2 y3, LeO (chain_Pieces.l0 k y0 y1 y2 y3) (chain_Pieces.l0 (k + 1) y0 y1 y2 y3))
 | 0 => fun _ _ _ _ r h => by simp [chain_Pieces.l0] at h
 | k + 1 => by
  have ih0 := chain_Pieces.mono_l k
  ·intro y0 y1 y2 y3
   unfold chain_Pieces.l0
   repeat' first
   | (with_reducible exact ih0 _ _ _ _)
   | (with_reducible exact chain_digits.mono _ _)
   | (with_reducible exact LeO.refl _)
   | (with_reducible exact LeO.none _)
   | (with_reducible refine LeO.ite ?_ ?_)
   | (with_reducible refine LeO.bind ?_ (fun _ => ?_))
   | exact ih0 _ _ _ _
   | exact chain_digits.mono _ _
   | exact LeO.none _
   | refine LeO.ite ?_ ?_
   | refine LeO.bind ?_ (fun _ => ?_)
theorem chain_Pieces.mono : ∀ a0 k, LeO (chain_Pieces.f k a0) (chain_Pieces.f (k + 1) a0) := by
 intro a0 k
 have ih0 := chain_Pieces.mono_l k
 unfold chain_Pieces.f
 repeat' first
   | (with_reducible exact ih0 _ _ _ _)
   | (with_reducible exact chain_digits.mono _ _)
   | (with_reducible exact LeO.refl _)
   | (with_reducible exact LeO.none _)
   | (with_reducible refine LeO.ite ?_ ?_)
   | (with_reducible refine LeO.bind ?_ (fun _ => ?_))
   | exact ih0 _ _ _ _
   | exact chain_digits.mono _ _
   | exact LeO.none _
   | refine LeO.ite ?_ ?_
   | refine LeO.bind ?_ (fun _ => ?_)
set_option maxHeartbeats 8000000 in
set_option maxRecDepth 100000 in
theorem chain_Pieces.calls (k : Nat) (A0 : Option Addr) (c0 : Nat) (l0 : List (S65)) (r1 : Int) (r2 : Int) (w : World) (hr0 : Kd.C k65 w A0 l0.length l0) (hc0 : l0.length ≤ c0) (h : chain_Pieces.f k l0 = some (r1, r2)) :
  Calls Tryz.prog 48 #[.slice A0 l0.length c0] w fun e w' => e = .returned (.tuple #[.int .i64 r1, .int .i64 r2]) ∧ Below w.heap.size w w' := by
 have hu65 := Tryz.underlying65
 have HR0 := zaaq hr0
 have HC0 := zaaq hc0
 clear hr0 hc0
 have HB := zaaq (Below.refl w.heap.size w)
 have H : (if (l0.length : Int) > 512 then (some (0, 1)) else (chain_Pieces.l0 k 0 l0 (l0.length : Int) 0)) = some (r1, r2) := h
 clear h
 by_cases c2 : (l0.length : Int) > 512
 ·rw [if_pos c2] at H
  have c2b0 : decide (512 < (l0.length : Int)) = true := decide_eq_true c2
  have c2b1 : decide (512 < l0.length) = true := decide_eq_true (by omega)
  clear c2
  simp only [Option.some.injEq, Prod.mk.injEq] at H
  obtain ⟨rfl, rfl⟩ := H
  go_enter Tryz.func48, Tryz.ntmps48
  go_wp2
  go_ret2
  exact ⟨by first | rfl | (simp [errW_none, errW_some] <;> rfl) | (simp [*, errW_none, errW_some] <;> rfl), by repeat (first | (with_reducible first | exact HB.out | apply zaak | apply zaai | apply zaaj) | exact HB.out)⟩
 ·rw [if_neg c2] at H
  have c2b0 : decide (512 < (l0.length : Int)) = false := decide_eq_false c2
  have c2b1 : decide (512 < l0.length) = false := decide_eq_false (by omega)
  clear c2
  have H' := zaaq H
  clear H
  go_enter Tryz.func48, Tryz.ntmps48
  go_wp2
  go_loopg [4, 12] k (fun kq v4 v12 w' => ∃ (zabm : Int) (zaax : Int), v4 = .int .i64 zabm ∧ v12 = .int .i64 zaax ∧ Aside0 (chain_Pieces.l0 kq zabm l0 (l0.length : Int) zaax = some (r1, r2)) ∧ Aside0 (kq ≤ k) ∧ Aside0 (Below w.heap.size w w'))
  case atStart => exact ⟨(0), (0), (by first | rfl | (simp; done) | (simp [*]; done)), (by first | rfl | (simp; done) | (simp [*]; done)), H', ⟨Nat.le_refl _⟩, ⟨by repeat (first | (with_reducible first | exact HB.out | apply zaak | apply zaai | apply zaaj) | exact HB.out)⟩⟩
  case round =>
   clear H'
   try clear c2
   try clear c2b0
   try clear c2b1
   try clear p2
   obtain ⟨zabm, zaax, rfl, rfl, HA, HK1, HB⟩ := hrel
   cases gk with
   | zero => exact absurd HA.out (by simp [chain_Pieces.l0])
   | succ k1 =>
    have H := HA.out
    clear HA
    simp only [chain_Pieces.l0] at H
    by_cases c3 : zaax < (l0.length : Int)
    ·rw [if_pos c3] at H
     have c3b0 : decide (zaax < (l0.length : Int)) = true := decide_eq_true c3
     clear c3
     by_cases c4 : 0 ≤ zaax
     ·rw [if_pos c4] at H
      have c4b0 : decide (0 ≤ zaax) = true := decide_eq_true c4
      clear c4
      by_cases c5 : zaax < (l0.length : Int)
      ·rw [if_pos c5] at H
       have c5b0 : decide (zaax < (l0.length : Int)) = true := decide_eq_true c5
       clear c5
       replace H := Option.bind_eq_some_iff.mp H
       obtain ⟨t277, A60, H⟩ := H
       replace H : (if t277 = true then (if ((rd_T65 l0 zaax).f1) < 1 then (some (0, 1)) else (if ((rd_T65 l0 zaax).f1) > 4096 then (some (0, 1)) else (chain_Pieces.l0 k1 (wrap64 (zabm + ((rd_T65 l0 zaax).f1))) l0 (l0.length : Int) (wrap64 (zaax + 1))))) else (some (0, 1))) = some (r1, r2) := H
       have A6 := zaaq A60
       clear A60
       by_cases c7 : t277 = true
       ·subst c7
        have H1 : (if ((rd_T65 l0 zaax).f1) < 1 then (some (0, 1)) else (if ((rd_T65 l0 zaax).f1) > 4096 then (some (0, 1)) else (chain_Pieces.l0 k1 (wrap64 (zabm + ((rd_T65 l0 zaax).f1))) l0 (l0.length : Int) (wrap64 (zaax + 1))))) = some (r1, r2) := by rw [if_pos rfl] at H; exact H
        clear H
        have H := H1
        clear H1
        by_cases c8 : ((rd_T65 l0 zaax).f1) < 1
        ·rw [if_pos c8] at H
         have c8b0 : decide (((rd_T65 l0 zaax).f1) < 1) = true := decide_eq_true c8
         clear c8
         simp only [Option.some.injEq, Prod.mk.injEq] at H
         obtain ⟨rfl, rfl⟩ := H
         have p275 : 0 ≤ (zaax : Int) := of_decide_eq_true (by first | (with_reducible assumption) | assumption)
         have q275 : zaax < (l0.length : Int) := of_decide_eq_true (by first | (with_reducible assumption) | assumption)
         obtain ⟨ad275, e275, hx275_0, hx275_1⟩ := at_T65 HR0.out zaax p275 q275
         cases e275
         replace hx275_0 := (HB.out.cell (zaad w _ hx275_0)).trans hx275_0
         replace hx275_1 := (HB.out.cell (zaad w _ hx275_1)).trans hx275_1
         replace p275 := eq_true p275
         replace q275 := eq_true q275
         go_wp2_with (first | ((with_reducible refine gate_dst (N := 6) rfl ?_); refine box_event ?hg (N := 6) ?hd (cs := #[.string (⟨#[]⟩ : ByteArray), .int .i64 0]) (t := 65) ?hr ?_; (case hd => rfl); (case hg => rfl); (case hr => first | (go_simp; done) | (go_simp; rfl)); intro zabb hg w9 hbox hb; have n0_ := zaaq (below_step (by repeat (first | (with_reducible first | exact HB.out | apply zaak | apply zaai | apply zaaj) | exact HB.out)) hb); have n1_ := zaaq (hbox); have n2_ := zaaq ((by rw [hg]; exact (below_size (by repeat (first | (with_reducible first | exact HB.out | apply zaak | apply zaai | apply zaaj) | exact HB.out))) : w.heap.size ≤ zabb)); have n3_ := zaaq ((by rw [hg]; exact (below_size (by repeat (first | (with_reducible first | exact HB.out | apply zaak | apply zaai | apply zaaj) | exact HB.out))) : w.heap.size ≤ zabb)); clear HB; have HB := n0_; have zabc := n1_; have zaca := n2_; have zabf := n3_; clear n0_ n1_ n2_ n3_; clear hb hbox hg; have zabs : w9.cell? ⟨zabb, 0, none⟩ = some (.string (⟨#[]⟩ : ByteArray)) := (zaal zabc.out 0).trans rfl; have zabt : w9.cell? ⟨zabb, 1, none⟩ = some (.int .i64 0) := (zaal zabc.out 1).trans rfl; have zabu := zaam zabc.out 0; have zabv := zaam zabc.out 1) | ((with_reducible refine gate_callee (f := 70) rfl ?_); refine goesL_ (some 18) rfl rfl Tryz.func70 (by kernel_rfl) rfl #[.string ((rd_T65 l0 zaax).f0)] rfl (by (try simp only [zaan, zaao, zaap]); first | done | rfl) ?_; (with_reducible refine (chain_digits.calls k1 ((rd_T65 l0 zaax).f0) true _ A6.out).mono ?_); rintro e w' ⟨rfl, ⟨nd, rfl⟩⟩; refine ⟨_, rfl, ?_⟩))
         go_ret2
         exact ⟨by first | rfl | (simp [errW_none, errW_some] <;> rfl) | (simp [*, errW_none, errW_some] <;> rfl), by repeat (first | (with_reducible first | exact HB.out | apply zaak | apply zaai | apply zaaj | refine zaah ?_ zabf.out) | exact HB.out)⟩
        ·rw [if_neg c8] at H
         have c8b0 : decide (((rd_T65 l0 zaax).f1) < 1) = false := decide_eq_false c8
         clear c8
         by_cases c11 : ((rd_T65 l0 zaax).f1) > 4096
         ·rw [if_pos c11] at H
          have c11b0 : decide (4096 < ((rd_T65 l0 zaax).f1)) = true := decide_eq_true c11
          clear c11
          simp only [Option.some.injEq, Prod.mk.injEq] at H
          obtain ⟨rfl, rfl⟩ := H
          have p275 : 0 ≤ (zaax : Int) := of_decide_eq_true (by first | (with_reducible assumption) | assumption)
          have q275 : zaax < (l0.length : Int) := of_decide_eq_true (by first | (with_reducible assumption) | assumption)
          obtain ⟨ad275, e275, hx275_0, hx275_1⟩ := at_T65 HR0.out zaax p275 q275
          cases e275
          replace hx275_0 := (HB.out.cell (zaad w _ hx275_0)).trans hx275_0
          replace hx275_1 := (HB.out.cell (zaad w _ hx275_1)).trans hx275_1
          replace p275 := eq_true p275
          replace q275 := eq_true q275
          go_wp2_with (first | ((with_reducible refine gate_dst (N := 6) rfl ?_); refine box_event ?hg (N := 6) ?hd (cs := #[.string (⟨#[]⟩ : ByteArray), .int .i64 0]) (t := 65) ?hr ?_; (case hd => rfl); (case hg => rfl); (case hr => first | (go_simp; done) | (go_simp; rfl)); intro zabb hg w12 hbox hb; have n0_ := zaaq (below_step (by repeat (first | (with_reducible first | exact HB.out | apply zaak | apply zaai | apply zaaj) | exact HB.out)) hb); have n1_ := zaaq (hbox); have n2_ := zaaq ((by rw [hg]; exact (below_size (by repeat (first | (with_reducible first | exact HB.out | apply zaak | apply zaai | apply zaaj) | exact HB.out))) : w.heap.size ≤ zabb)); have n3_ := zaaq ((by rw [hg]; exact (below_size (by repeat (first | (with_reducible first | exact HB.out | apply zaak | apply zaai | apply zaaj) | exact HB.out))) : w.heap.size ≤ zabb)); clear HB; have HB := n0_; have zabc := n1_; have zaca := n2_; have zabf := n3_; clear n0_ n1_ n2_ n3_; clear hb hbox hg; have zabi : w12.cell? ⟨zabb, 0, none⟩ = some (.string (⟨#[]⟩ : ByteArray)) := (zaal zabc.out 0).trans rfl; have zabj : w12.cell? ⟨zabb, 1, none⟩ = some (.int .i64 0) := (zaal zabc.out 1).trans rfl; have zabk := zaam zabc.out 0; have zabl := zaam zabc.out 1) | ((with_reducible refine gate_callee (f := 70) rfl ?_); refine goesL_ (some 18) rfl rfl Tryz.func70 (by kernel_rfl) rfl #[.string ((rd_T65 l0 zaax).f0)] rfl (by (try simp only [zaan, zaao, zaap]); first | done | rfl) ?_; (with_reducible refine (chain_digits.calls k1 ((rd_T65 l0 zaax).f0) true _ A6.out).mono ?_); rintro e w' ⟨rfl, ⟨nd, rfl⟩⟩; refine ⟨_, rfl, ?_⟩))
          go_ret2
          exact ⟨by first | rfl | (simp [errW_none, errW_some] <;> rfl) | (simp [*, errW_none, errW_some] <;> rfl), by repeat (first | (with_reducible first | exact HB.out | apply zaak | apply zaai | apply zaaj | refine zaah ?_ zabf.out) | exact HB.out)⟩
         ·rw [if_neg c11] at H
          have c11b0 : decide (4096 < ((rd_T65 l0 zaax).f1)) = false := decide_eq_false c11
          clear c11
          have H' := zaaq H
          clear H
          have p275 : 0 ≤ (zaax : Int) := of_decide_eq_true (by first | (with_reducible assumption) | assumption)
          have q275 : zaax < (l0.length : Int) := of_decide_eq_true (by first | (with_reducible assumption) | assumption)
          obtain ⟨ad275, e275, hx275_0, hx275_1⟩ := at_T65 HR0.out zaax p275 q275
          cases e275
          replace hx275_0 := (HB.out.cell (zaad w _ hx275_0)).trans hx275_0
          replace hx275_1 := (HB.out.cell (zaad w _ hx275_1)).trans hx275_1
          replace p275 := eq_true p275
          replace q275 := eq_true q275
          go_wp2_with (first | ((with_reducible refine gate_dst (N := 6) rfl ?_); refine box_event ?hg (N := 6) ?hd (cs := #[.string (⟨#[]⟩ : ByteArray), .int .i64 0]) (t := 65) ?hr ?_; (case hd => rfl); (case hg => rfl); (case hr => first | (go_simp; done) | (go_simp; rfl)); intro zabb hg w14 hbox hb; have n0_ := zaaq (below_step (by repeat (first | (with_reducible first | exact HB.out | apply zaak | apply zaai | apply zaaj) | exact HB.out)) hb); have n1_ := zaaq (hbox); have n2_ := zaaq ((by rw [hg]; exact (below_size (by repeat (first | (with_reducible first | exact HB.out | apply zaak | apply zaai | apply zaaj) | exact HB.out))) : w.heap.size ≤ zabb)); have n3_ := zaaq ((by rw [hg]; exact (below_size (by repeat (first | (with_reducible first | exact HB.out | apply zaak | apply zaai | apply zaaj) | exact HB.out))) : w.heap.size ≤ zabb)); clear HB; have HB := n0_; have zabc := n1_; have zaca := n2_; have zabf := n3_; clear n0_ n1_ n2_ n3_; clear hb hbox hg; have zabw : w14.cell? ⟨zabb, 0, none⟩ = some (.string (⟨#[]⟩ : ByteArray)) := (zaal zabc.out 0).trans rfl; have zabx : w14.cell? ⟨zabb, 1, none⟩ = some (.int .i64 0) := (zaal zabc.out 1).trans rfl; have zaby := zaam zabc.out 0; have zabz := zaam zabc.out 1) | ((with_reducible refine gate_callee (f := 70) rfl ?_); refine goesL_ (some 18) rfl rfl Tryz.func70 (by kernel_rfl) rfl #[.string ((rd_T65 l0 zaax).f0)] rfl (by (try simp only [zaan, zaao, zaap]); first | done | rfl) ?_; (with_reducible refine (chain_digits.calls k1 ((rd_T65 l0 zaax).f0) true _ A6.out).mono ?_); rintro e w' ⟨rfl, ⟨nd, rfl⟩⟩; refine ⟨_, rfl, ?_⟩))
          go_roundg k1
          case measure => have := HK1.out; omega
          case rel => exact ⟨(wrap64 (zabm + ((rd_T65 l0 zaax).f1))), (wrap64 (zaax + 1)), (by first | rfl | (simp; done) | (simp [*]; done)), (by first | rfl | (simp; done) | (simp [*]; done)), H', ⟨by have := HK1.out; omega⟩, ⟨by repeat (first | (with_reducible first | exact HB.out | apply zaak | apply zaai | apply zaaj | refine zaah ?_ zabf.out) | exact HB.out)⟩⟩
       ·replace c7 := Bool.eq_false_iff.mpr c7
        subst c7
        have H1 : (some (0, 1)) = some (r1, r2) := by rw [if_neg (show ¬ (false = true) by decide)] at H; exact H
        clear H
        have H := H1
        clear H1
        simp only [Option.some.injEq, Prod.mk.injEq] at H
        obtain ⟨rfl, rfl⟩ := H
        have p275 : 0 ≤ (zaax : Int) := of_decide_eq_true (by first | (with_reducible assumption) | assumption)
        have q275 : zaax < (l0.length : Int) := of_decide_eq_true (by first | (with_reducible assumption) | assumption)
        obtain ⟨ad275, e275, hx275_0, hx275_1⟩ := at_T65 HR0.out zaax p275 q275
        cases e275
        replace hx275_0 := (HB.out.cell (zaad w _ hx275_0)).trans hx275_0
        replace hx275_1 := (HB.out.cell (zaad w _ hx275_1)).trans hx275_1
        replace p275 := eq_true p275
        replace q275 := eq_true q275
        go_wp2_with (first | ((with_reducible refine gate_dst (N := 6) rfl ?_); refine box_event ?hg (N := 6) ?hd (cs := #[.string (⟨#[]⟩ : ByteArray), .int .i64 0]) (t := 65) ?hr ?_; (case hd => rfl); (case hg => rfl); (case hr => first | (go_simp; done) | (go_simp; rfl)); intro zabb hg w16 hbox hb; have n0_ := zaaq (below_step (by repeat (first | (with_reducible first | exact HB.out | apply zaak | apply zaai | apply zaaj) | exact HB.out)) hb); have n1_ := zaaq (hbox); have n2_ := zaaq ((by rw [hg]; exact (below_size (by repeat (first | (with_reducible first | exact HB.out | apply zaak | apply zaai | apply zaaj) | exact HB.out))) : w.heap.size ≤ zabb)); have n3_ := zaaq ((by rw [hg]; exact (below_size (by repeat (first | (with_reducible first | exact HB.out | apply zaak | apply zaai | apply zaaj) | exact HB.out))) : w.heap.size ≤ zabb)); clear HB; have HB := n0_; have zabc := n1_; have zaca := n2_; have zabf := n3_; clear n0_ n1_ n2_ n3_; clear hb hbox hg; have zadj : w16.cell? ⟨zabb, 0, none⟩ = some (.string (⟨#[]⟩ : ByteArray)) := (zaal zabc.out 0).trans rfl; have zadk : w16.cell? ⟨zabb, 1, none⟩ = some (.int .i64 0) := (zaal zabc.out 1).trans rfl; have zadl := zaam zabc.out 0; have zadm := zaam zabc.out 1) | ((with_reducible refine gate_callee (f := 70) rfl ?_); refine goesL_ (some 18) rfl rfl Tryz.func70 (by kernel_rfl) rfl #[.string ((rd_T65 l0 zaax).f0)] rfl (by (try simp only [zaan, zaao, zaap]); first | done | rfl) ?_; (with_reducible refine (chain_digits.calls k1 ((rd_T65 l0 zaax).f0) false _ A6.out).mono ?_); rintro e w' ⟨rfl, ⟨nd, rfl⟩⟩; refine ⟨_, rfl, ?_⟩))
        go_ret2
        exact ⟨by first | rfl | (simp [errW_none, errW_some] <;> rfl) | (simp [*, errW_none, errW_some] <;> rfl), by repeat (first | (with_reducible first | exact HB.out | apply zaak | apply zaai | apply zaaj | refine zaah ?_ zabf.out) | exact HB.out)⟩
      ·rw [if_neg c5] at H
       exact absurd H (by simp)
     ·rw [if_neg c4] at H
      exact absurd H (by simp)
    ·rw [if_neg c3] at H
     have c3b0 : decide (zaax < (l0.length : Int)) = false := decide_eq_false c3
     clear c3
     simp only [Option.some.injEq, Prod.mk.injEq] at H
     obtain ⟨rfl, rfl⟩ := H
     go_wp2
     go_ret2
     exact ⟨by first | rfl | (simp [errW_none, errW_some] <;> rfl) | (simp [*, errW_none, errW_some] <;> rfl), by repeat (first | (with_reducible first | exact HB.out | apply zaak | apply zaai | apply zaaj) | exact HB.out)⟩
/-! ### parts_Check: function 21 -/
def parts_Check.j0 : Nat → Bool → Int → Int → ByteArray → List (S65) → Option (Int)
 | 0, _, _, _, _, _ => none
 | k + 1, x36, zadn, zado, zack, zadp => if x36 = true then (some 1) else ((unhexQ.f zack).bind fun bt281 => (if bt281.2 = 0 then (some 0) else (some 1)))
def parts_Check.f (k : Nat) (a0_0 : Int) (a0_1 : Int) (a0_2 : ByteArray) (l0_3 : List (S65)) : Option (Int) := (chain_Pieces.f k l0_3).bind fun bt279 => (if a0_0 < 1 then (parts_Check.j0 k true a0_0 a0_1 a0_2 l0_3) else (if a0_0 > 100 then (parts_Check.j0 k true a0_0 a0_1 a0_2 l0_3) else (if bt279.2 = 0 then (if bt279.1 = a0_1 then (parts_Check.j0 k ((a0_2.size : Int) != 64) a0_0 a0_1 a0_2 l0_3) else (parts_Check.j0 k true a0_0 a0_1 a0_2 l0_3)) else (parts_Check.j0 k true a0_0 a0_1 a0_2 l0_3))))
theorem parts_Check.mono_l : ∀ k, (∀ y0 y1 y2 y3 y4, LeO (parts_Check.j0 k y0 y1 y2 y3 y4) (parts_Check.j0 (k + 1) y0 y1 y2 y3 y4))
 | 0 => fun _ _ _ _ _ r h => by simp [parts_Check.j0] at h
 | k + 1 => by
  have ih0 := parts_Check.mono_l k
  ·intro y0 y1 y2 y3 y4
   unfold parts_Check.j0
   repeat' first
   | (with_reducible exact ih0 _ _ _ _ _)
   | (with_reducible exact chain_Pieces.mono _ _)
   | (with_reducible exact LeO.refl _)
   | (with_reducible exact LeO.none _)
   | (with_reducible refine LeO.ite ?_ ?_)
   | (with_reducible refine LeO.bind ?_ (fun _ => ?_))
   | exact ih0 _ _ _ _ _
   | exact chain_Pieces.mono _ _
   | exact LeO.none _
   | refine LeO.ite ?_ ?_
   | refine LeO.bind ?_ (fun _ => ?_)
theorem parts_Check.mono : ∀ a0 a1 a2 a3 k, LeO (parts_Check.f k a0 a1 a2 a3) (parts_Check.f (k + 1) a0 a1 a2 a3) := by
 intro a0 a1 a2 a3 k
 have ih0 := parts_Check.mono_l k
 unfold parts_Check.f
 repeat' first
   | (with_reducible exact ih0 _ _ _ _ _)
   | (with_reducible exact chain_Pieces.mono _ _)
   | (with_reducible exact LeO.refl _)
   | (with_reducible exact LeO.none _)
   | (with_reducible refine LeO.ite ?_ ?_)
   | (with_reducible refine LeO.bind ?_ (fun _ => ?_))
   | exact ih0 _ _ _ _ _
   | exact chain_Pieces.mono _ _
   | exact LeO.none _
   | refine LeO.ite ?_ ?_
   | refine LeO.bind ?_ (fun _ => ?_)
set_option maxHeartbeats 8000000 in
set_option maxRecDepth 100000 in
theorem parts_Check.calls (k : Nat) (a0_0 : Int) (a0_1 : Int) (a0_2 : ByteArray) (A0_3 : Option Addr) (c0_3 : Nat) (l0_3 : List (S65)) (r : Int) (w : World) (hr0_3 : Kd.C k65 w A0_3 l0_3.length l0_3) (hc0_3 : l0_3.length ≤ c0_3) (h : parts_Check.f k a0_0 a0_1 a0_2 l0_3 = some r) :
  Calls Tryz.prog 21 #[.agg #[.int .i64 a0_0, .int .i64 a0_1, .string a0_2, .slice A0_3 l0_3.length c0_3]] w fun e w' => e = .returned (.int .i64 r) ∧ Below w.heap.size w w' := by
 have hu38 := Tryz.underlying38
 have HR0_3 := zaaq hr0_3
 have HC0_3 := zaaq hc0_3
 clear hr0_3 hc0_3
 have HB := zaaq (Below.refl w.heap.size w)
 have H : ((chain_Pieces.f k l0_3).bind fun bt279 => (if a0_0 < 1 then (parts_Check.j0 k true a0_0 a0_1 a0_2 l0_3) else (if a0_0 > 100 then (parts_Check.j0 k true a0_0 a0_1 a0_2 l0_3) else (if bt279.2 = 0 then (if bt279.1 = a0_1 then (parts_Check.j0 k ((a0_2.size : Int) != 64) a0_0 a0_1 a0_2 l0_3) else (parts_Check.j0 k true a0_0 a0_1 a0_2 l0_3)) else (parts_Check.j0 k true a0_0 a0_1 a0_2 l0_3))))) = some r := h
 clear h
 replace H := Option.bind_eq_some_iff.mp H
 obtain ⟨⟨t279, t280⟩, A20, H⟩ := H
 replace H : (if a0_0 < 1 then (parts_Check.j0 k true a0_0 a0_1 a0_2 l0_3) else (if a0_0 > 100 then (parts_Check.j0 k true a0_0 a0_1 a0_2 l0_3) else (if t280 = 0 then (if t279 = a0_1 then (parts_Check.j0 k ((a0_2.size : Int) != 64) a0_0 a0_1 a0_2 l0_3) else (parts_Check.j0 k true a0_0 a0_1 a0_2 l0_3)) else (parts_Check.j0 k true a0_0 a0_1 a0_2 l0_3)))) = some r := H
 have A2 := zaaq A20
 clear A20
 have HC3 := zaaq H
 clear H
 go_enter Tryz.func21, Tryz.ntmps21
 go_upto_region 2 with (first | ((with_reducible refine gate_dst (N := 1) rfl ?_); (try (refine gate_guard (by rfl) ?_; dsimp only)); refine box_event ?hg (N := 1) ?hd (cs := #[.int .i64 a0_0, .int .i64 a0_1, .string a0_2, .slice A0_3 l0_3.length c0_3]) (t := 38) ?hr ?_; (case hd => rfl); (case hg => rfl); (case hr => first | (go_simp; done) | (go_simp; rfl)); intro zaay hg w4 hbox hb; have n0_ := zaaq (below_step (by repeat (first | (with_reducible first | exact HB.out | apply zaak | apply zaai | apply zaaj) | exact HB.out)) hb); have n1_ := zaaq (hbox); have n2_ := zaaq ((by rw [hg]; exact (below_size (by repeat (first | (with_reducible first | exact HB.out | apply zaak | apply zaai | apply zaaj) | exact HB.out))) : w.heap.size ≤ zaay)); have n3_ := zaaq ((by rw [hg]; exact (below_size (by repeat (first | (with_reducible first | exact HB.out | apply zaak | apply zaai | apply zaaj) | exact HB.out))) : w.heap.size ≤ zaay)); clear HB; have HB := n0_; have zaau := n1_; have zafm := n2_; have zabe := n3_; clear n0_ n1_ n2_ n3_; clear hb hbox hg; have zadb : w4.cell? ⟨zaay, 0, none⟩ = some (.int .i64 a0_0) := (zaal zaau.out 0).trans rfl; have zadc : w4.cell? ⟨zaay, 1, none⟩ = some (.int .i64 a0_1) := (zaal zaau.out 1).trans rfl; have zadd : w4.cell? ⟨zaay, 2, none⟩ = some (.string a0_2) := (zaal zaau.out 2).trans rfl; have zade : w4.cell? ⟨zaay, 3, none⟩ = some (.slice A0_3 l0_3.length c0_3) := (zaal zaau.out 3).trans rfl; have zadf := zaam zaau.out 0; have zadg := zaam zaau.out 1; have zadh := zaam zaau.out 2; have zadi := zaam zaau.out 3) | ((with_reducible refine gate_callee (f := 48) rfl ?_); refine goesL_ (some 10) rfl rfl Tryz.func48 (by kernel_rfl) rfl #[.slice A0_3 l0_3.length c0_3] rfl (by (try simp only [zaan, zaao, zaap]); first | done | rfl) ?_; (with_reducible refine (chain_Pieces.calls k _ _ l0_3 t279 t280 _ ?side1 ?side2 A2.out).mono ?_); (case side1 => repeat (first | exact (Kd.C_below HR0_3.out HB.out) | (with_reducible refine Kd.C_alloc ?_ _) | (with_reducible refine Kd.C_drewN ?_ _) | (with_reducible refine Kd.C_drew ?_))); (case side2 => exact HC0_3.out); rintro e w6 ⟨rfl, hb⟩; refine ⟨_, rfl, ?_⟩; have n0_ := zaaq (blk_below (g := zaay) (o := .cells #[.int .i64 a0_0, .int .i64 a0_1, .string a0_2, .slice A0_3 l0_3.length c0_3] 38 (0, 0)) (by (with_reducible repeat (first | refine zaae ?_ _ | refine zaag ?_ | refine zaaf ?_ _)); exact zaau.out) hb); have n1_ := zaaq (below_step (by repeat (first | (with_reducible first | exact HB.out | apply zaak | apply zaai | apply zaaj | refine zaah ?_ zabe.out) | exact HB.out)) hb); clear zaau; clear HB; have zaau := n0_; have HB := n1_; clear n0_ n1_; (try clear hb); (try clear hk); (try clear hi)))
 (try simp only [Act.put, zaaa, zaab, zaac])
 go_cut [36] (fun v36 wc => ∃ (kq : Nat) (zabr : Bool), v36 = .bool zabr ∧ Aside0 (parts_Check.j0 kq zabr a0_0 a0_1 a0_2 l0_3 = some r) ∧ Aside0 (kq ≤ k) ∧ Aside0 (wc.heap[zaay]? = some (.cells #[.int .i64 a0_0, .int .i64 a0_1, .string a0_2, (.slice A0_3 l0_3.length c0_3)] 38 (0, 0))) ∧ Aside0 (Below w.heap.size w wc))
 case first =>
  have H := HC3.out
  clear HC3
  by_cases c7 : a0_0 < 1
  ·rw [if_pos c7] at H
   have c7b0 : decide (a0_0 < 1) = true := decide_eq_true c7
   clear c7
   (first | rw [c7b0] | (simp only [i64_w, i32_w]; rw [c7b0]) | skip)
   have H' := zaaq H
   clear H
   have zacc : w6.cell? ⟨zaay, 0, none⟩ = some (.int .i64 a0_0) := (zaal zaau.out 0).trans rfl
   have zacd : w6.cell? ⟨zaay, 1, none⟩ = some (.int .i64 a0_1) := (zaal zaau.out 1).trans rfl
   have zace : w6.cell? ⟨zaay, 2, none⟩ = some (.string a0_2) := (zaal zaau.out 2).trans rfl
   have zacf : w6.cell? ⟨zaay, 3, none⟩ = some (.slice A0_3 l0_3.length c0_3) := (zaal zaau.out 3).trans rfl
   have zacg := zaam zaau.out 0
   have zach := zaam zaau.out 1
   have zaci := zaam zaau.out 2
   have zacj := zaam zaau.out 3
   go_wp2
   go_meet
   case rel => exact ⟨_, (true), (by first | rfl | (simp; done) | (simp [*]; done)), H', ⟨by first | omega | exact Nat.le_refl _⟩, ⟨by (with_reducible repeat (first | refine zaae ?_ _ | refine zaag ?_ | refine zaaf ?_ _)); exact zaau.out⟩, ⟨by repeat (first | (with_reducible first | exact HB.out | apply zaak | apply zaai | apply zaaj | refine zaah ?_ zabe.out) | exact HB.out)⟩⟩
  ·rw [if_neg c7] at H
   have c7b0 : decide (a0_0 < 1) = false := decide_eq_false c7
   clear c7
   (first | rw [c7b0] | (simp only [i64_w, i32_w]; rw [c7b0]) | skip)
   by_cases c9 : a0_0 > 100
   ·rw [if_pos c9] at H
    have c9b0 : decide (100 < a0_0) = true := decide_eq_true c9
    clear c9
    have H' := zaaq H
    clear H
    have zabs : w6.cell? ⟨zaay, 0, none⟩ = some (.int .i64 a0_0) := (zaal zaau.out 0).trans rfl
    have zabt : w6.cell? ⟨zaay, 1, none⟩ = some (.int .i64 a0_1) := (zaal zaau.out 1).trans rfl
    have zacl : w6.cell? ⟨zaay, 2, none⟩ = some (.string a0_2) := (zaal zaau.out 2).trans rfl
    have zacm : w6.cell? ⟨zaay, 3, none⟩ = some (.slice A0_3 l0_3.length c0_3) := (zaal zaau.out 3).trans rfl
    have zabu := zaam zaau.out 0
    have zabv := zaam zaau.out 1
    have zacn := zaam zaau.out 2
    have zaco := zaam zaau.out 3
    go_wp2
    go_meet
    case rel => exact ⟨_, (true), (by first | rfl | (simp; done) | (simp [*]; done)), H', ⟨by first | omega | exact Nat.le_refl _⟩, ⟨by (with_reducible repeat (first | refine zaae ?_ _ | refine zaag ?_ | refine zaaf ?_ _)); exact zaau.out⟩, ⟨by repeat (first | (with_reducible first | exact HB.out | apply zaak | apply zaai | apply zaaj | refine zaah ?_ zabe.out) | exact HB.out)⟩⟩
   ·rw [if_neg c9] at H
    have c9b0 : decide (100 < a0_0) = false := decide_eq_false c9
    clear c9
    by_cases c11 : t280 = 0
    ·rw [if_pos c11] at H
     have c11b0 : (t280 == 0) = true := beq_iff_eq.mpr c11
     have c11b1 : (t280 != 0) = false := bne_eq_false_iff_eq.mpr c11
     clear c11
     by_cases c12 : t279 = a0_1
     ·rw [if_pos c12] at H
      have c12b0 : (t279 == a0_1) = true := beq_iff_eq.mpr c12
      have c12b1 : (t279 != a0_1) = false := bne_eq_false_iff_eq.mpr c12
      clear c12
      have H' := zaaq H
      clear H
      have zabi : w6.cell? ⟨zaay, 0, none⟩ = some (.int .i64 a0_0) := (zaal zaau.out 0).trans rfl
      have zabj : w6.cell? ⟨zaay, 1, none⟩ = some (.int .i64 a0_1) := (zaal zaau.out 1).trans rfl
      have zabn : w6.cell? ⟨zaay, 2, none⟩ = some (.string a0_2) := (zaal zaau.out 2).trans rfl
      have zabo : w6.cell? ⟨zaay, 3, none⟩ = some (.slice A0_3 l0_3.length c0_3) := (zaal zaau.out 3).trans rfl
      have zabk := zaam zaau.out 0
      have zabl := zaam zaau.out 1
      have zabp := zaam zaau.out 2
      have zabq := zaam zaau.out 3
      go_wp2
      go_meet
      case rel => exact ⟨_, (((a0_2.size : Int) != 64)), (by first | rfl | (simp; done) | (simp [*]; done)), H', ⟨by first | omega | exact Nat.le_refl _⟩, ⟨by (with_reducible repeat (first | refine zaae ?_ _ | refine zaag ?_ | refine zaaf ?_ _)); exact zaau.out⟩, ⟨by repeat (first | (with_reducible first | exact HB.out | apply zaak | apply zaai | apply zaaj | refine zaah ?_ zabe.out) | exact HB.out)⟩⟩
     ·rw [if_neg c12] at H
      have c12b0 : (t279 == a0_1) = false := beq_eq_false_iff_ne.mpr c12
      have c12b1 : (t279 != a0_1) = true := bne_iff_ne.mpr c12
      have H' := zaaq H
      clear H
      have zacp : w6.cell? ⟨zaay, 0, none⟩ = some (.int .i64 a0_0) := (zaal zaau.out 0).trans rfl
      have zacq : w6.cell? ⟨zaay, 1, none⟩ = some (.int .i64 a0_1) := (zaal zaau.out 1).trans rfl
      have zacr : w6.cell? ⟨zaay, 2, none⟩ = some (.string a0_2) := (zaal zaau.out 2).trans rfl
      have zacs : w6.cell? ⟨zaay, 3, none⟩ = some (.slice A0_3 l0_3.length c0_3) := (zaal zaau.out 3).trans rfl
      have zact := zaam zaau.out 0
      have zacu := zaam zaau.out 1
      have zacv := zaam zaau.out 2
      have zacw := zaam zaau.out 3
      go_wp2
      go_meet
      case rel => exact ⟨_, (true), (by first | rfl | (simp; done) | (simp [*]; done)), H', ⟨by first | omega | exact Nat.le_refl _⟩, ⟨by (with_reducible repeat (first | refine zaae ?_ _ | refine zaag ?_ | refine zaaf ?_ _)); exact zaau.out⟩, ⟨by repeat (first | (with_reducible first | exact HB.out | apply zaak | apply zaai | apply zaaj | refine zaah ?_ zabe.out) | exact HB.out)⟩⟩
    ·rw [if_neg c11] at H
     have c11b0 : (t280 == 0) = false := beq_eq_false_iff_ne.mpr c11
     have c11b1 : (t280 != 0) = true := bne_iff_ne.mpr c11
     have H' := zaaq H
     clear H
     have zabw : w6.cell? ⟨zaay, 0, none⟩ = some (.int .i64 a0_0) := (zaal zaau.out 0).trans rfl
     have zabx : w6.cell? ⟨zaay, 1, none⟩ = some (.int .i64 a0_1) := (zaal zaau.out 1).trans rfl
     have zacx : w6.cell? ⟨zaay, 2, none⟩ = some (.string a0_2) := (zaal zaau.out 2).trans rfl
     have zacy : w6.cell? ⟨zaay, 3, none⟩ = some (.slice A0_3 l0_3.length c0_3) := (zaal zaau.out 3).trans rfl
     have zaby := zaam zaau.out 0
     have zabz := zaam zaau.out 1
     have zacz := zaam zaau.out 2
     have zada := zaam zaau.out 3
     go_wp2
     go_meet
     case rel => exact ⟨_, (true), (by first | rfl | (simp; done) | (simp [*]; done)), H', ⟨by first | omega | exact Nat.le_refl _⟩, ⟨by (with_reducible repeat (first | refine zaae ?_ _ | refine zaag ?_ | refine zaaf ?_ _)); exact zaau.out⟩, ⟨by repeat (first | (with_reducible first | exact HB.out | apply zaak | apply zaai | apply zaaj | refine zaah ?_ zabe.out) | exact HB.out)⟩⟩
 case rest =>
  clear HC3
  try clear c1
  try clear c2
  try clear p2
  try clear c4
  try clear c7
  try clear c7b0
  try clear c9
  try clear c9b0
  try clear c11
  try clear c11b0
  try clear c11b1
  try clear c12
  try clear c12b0
  try clear c12b1
  try clear zabs
  try clear zabt
  try clear zacl
  try clear zacm
  try clear zabi
  try clear zabj
  try clear zabn
  try clear zabo
  try clear zacp
  try clear zacq
  try clear zacr
  try clear zacs
  try clear zabw
  try clear zabx
  try clear zacx
  try clear zacy
  try clear zadb
  try clear zadc
  try clear zadd
  try clear zade
  try clear zacc
  try clear zacd
  try clear zace
  try clear zacf
  try clear zabu
  try clear zabv
  try clear zacn
  try clear zaco
  try clear zabk
  try clear zabl
  try clear zabp
  try clear zabq
  try clear zact
  try clear zacu
  try clear zacv
  try clear zacw
  try clear zaby
  try clear zabz
  try clear zacz
  try clear zada
  try clear zadf
  try clear zadg
  try clear zadh
  try clear zadi
  try clear zacg
  try clear zach
  try clear zaci
  try clear zacj
  obtain ⟨kq, zabr, rfl, HA, HJ2, zaau, HB⟩ := hcut
  cases kq with
  | zero => exact absurd HA.out (by simp [parts_Check.j0])
  | succ kj2 =>
   have H := HA.out
   clear HA
   simp only [parts_Check.j0] at H
   by_cases c16 : zabr = true
   ·subst c16
    have H1 : (some 1) = some r := by rw [if_pos rfl] at H; exact H
    clear H
    have H := H1
    clear H1
    obtain rfl := Option.some.inj H
    go_wp2
    go_ret
    exact ⟨by first | rfl | (simp [errW_none, errW_some] <;> rfl) | (simp [*, errW_none, errW_some] <;> rfl), by repeat (first | (with_reducible first | exact HB.out | apply zaak | apply zaai | apply zaaj | refine zaah ?_ zabe.out) | exact HB.out)⟩
   ·replace c16 := Bool.eq_false_iff.mpr c16
    subst c16
    have H1 : ((unhexQ.f a0_2).bind fun bt281 => (if bt281.2 = 0 then (some 0) else (some 1))) = some r := by rw [if_neg (show ¬ (false = true) by decide)] at H; exact H
    clear H
    have H := H1
    clear H1
    replace H := Option.bind_eq_some_iff.mp H
    obtain ⟨⟨t281, t282⟩, A170, H⟩ := H
    replace H : (if t282 = 0 then (some 0) else (some 1)) = some r := H
    have A17 := zaaq A170
    clear A170
    by_cases c18 : t282 = 0
    ·rw [if_pos c18] at H
     have c18b0 : (t282 == 0) = true := beq_iff_eq.mpr c18
     have c18b1 : (t282 != 0) = false := bne_eq_false_iff_eq.mpr c18
     clear c18
     obtain rfl := Option.some.inj H
     have zadq : wc.cell? ⟨zaay, 0, none⟩ = some (.int .i64 a0_0) := (zaal zaau.out 0).trans rfl
     have zadr : wc.cell? ⟨zaay, 1, none⟩ = some (.int .i64 a0_1) := (zaal zaau.out 1).trans rfl
     have zads : wc.cell? ⟨zaay, 2, none⟩ = some (.string a0_2) := (zaal zaau.out 2).trans rfl
     have zadt : wc.cell? ⟨zaay, 3, none⟩ = some (.slice A0_3 l0_3.length c0_3) := (zaal zaau.out 3).trans rfl
     have zadu := zaam zaau.out 0
     have zadv := zaam zaau.out 1
     have zadw := zaam zaau.out 2
     have zadx := zaam zaau.out 3
     go_wp2_with (first | ((with_reducible refine gate_callee (f := 49) rfl ?_); refine goesL_ (some 40) rfl rfl Tryz.func49 (by kernel_rfl) rfl #[.string a0_2] rfl (by (try simp only [zaan, zaao, zaap]); first | done | rfl) ?_; (with_reducible refine (unhexQ.calls a0_2 t281 t282 _ A17.out).mono ?_); rintro e w20 ⟨rfl, hb⟩; refine ⟨_, rfl, ?_⟩; have n0_ := zaaq (blk_below (g := zaay) (o := .cells #[.int .i64 a0_0, .int .i64 a0_1, .string a0_2, .slice A0_3 l0_3.length c0_3] 38 (0, 0)) (by (with_reducible repeat (first | refine zaae ?_ _ | refine zaag ?_ | refine zaaf ?_ _)); exact zaau.out) hb); have n1_ := zaaq (below_step (by repeat (first | (with_reducible first | exact HB.out | apply zaak | apply zaai | apply zaaj | refine zaah ?_ zabe.out) | exact HB.out)) hb); clear zaau; clear HB; have zaau := n0_; have HB := n1_; clear n0_ n1_; (try clear hb); (try clear hk); (try clear hi)))
     go_ret
     exact ⟨by first | rfl | (simp [errW_none, errW_some] <;> rfl) | (simp [*, errW_none, errW_some] <;> rfl), by repeat (first | (with_reducible first | exact HB.out | apply zaak | apply zaai | apply zaaj | refine zaah ?_ zabe.out) | exact HB.out)⟩
    ·rw [if_neg c18] at H
     have c18b0 : (t282 == 0) = false := beq_eq_false_iff_ne.mpr c18
     have c18b1 : (t282 != 0) = true := bne_iff_ne.mpr c18
     obtain rfl := Option.some.inj H
     have zady : wc.cell? ⟨zaay, 0, none⟩ = some (.int .i64 a0_0) := (zaal zaau.out 0).trans rfl
     have zadz : wc.cell? ⟨zaay, 1, none⟩ = some (.int .i64 a0_1) := (zaal zaau.out 1).trans rfl
     have zaea : wc.cell? ⟨zaay, 2, none⟩ = some (.string a0_2) := (zaal zaau.out 2).trans rfl
     have zaeb : wc.cell? ⟨zaay, 3, none⟩ = some (.slice A0_3 l0_3.length c0_3) := (zaal zaau.out 3).trans rfl
     have zaec := zaam zaau.out 0
     have zaed := zaam zaau.out 1
     have zaee := zaam zaau.out 2
     have zaef := zaam zaau.out 3
     go_wp2_with (first | ((with_reducible refine gate_callee (f := 49) rfl ?_); refine goesL_ (some 40) rfl rfl Tryz.func49 (by kernel_rfl) rfl #[.string a0_2] rfl (by (try simp only [zaan, zaao, zaap]); first | done | rfl) ?_; (with_reducible refine (unhexQ.calls a0_2 t281 t282 _ A17.out).mono ?_); rintro e w22 ⟨rfl, hb⟩; refine ⟨_, rfl, ?_⟩; have n0_ := zaaq (blk_below (g := zaay) (o := .cells #[.int .i64 a0_0, .int .i64 a0_1, .string a0_2, .slice A0_3 l0_3.length c0_3] 38 (0, 0)) (by (with_reducible repeat (first | refine zaae ?_ _ | refine zaag ?_ | refine zaaf ?_ _)); exact zaau.out) hb); have n1_ := zaaq (below_step (by repeat (first | (with_reducible first | exact HB.out | apply zaak | apply zaai | apply zaaj | refine zaah ?_ zabe.out) | exact HB.out)) hb); clear zaau; clear HB; have zaau := n0_; have HB := n1_; clear n0_ n1_; (try clear hb); (try clear hk); (try clear hi)))
     go_ret
     exact ⟨by first | rfl | (simp [errW_none, errW_some] <;> rfl) | (simp [*, errW_none, errW_some] <;> rfl), by repeat (first | (with_reducible first | exact HB.out | apply zaak | apply zaai | apply zaaj | refine zaah ?_ zabe.out) | exact HB.out)⟩
/-! ### parts_right: function 20 -/
def parts_right.l0 : Nat → List (S38) → List (S38) → Int → Int → Option (Bool)
 | 0, _, _, _, _ => none
 | k + 1, x0, x5, x6, x7 => if x7 < x6 then (if 0 ≤ x7 then (if x7 < (x5.length : Int) then ((parts_Check.f k ((rd_T38 x5 x7).f0) ((rd_T38 x5 x7).f1) ((rd_T38 x5 x7).f2) ((rd_T38 x5 x7).f3)).bind fun t285 => (if t285 = 0 then (if x7 > 0 then (if 0 ≤ (wrap64 (x7 - 1)) then (if (wrap64 (x7 - 1)) < (x0.length : Int) then (if ((rd_T38 x5 x7).f0) ≤ ((rd_T38 x0 (wrap64 (x7 - 1))).f0) then (some false) else (parts_right.l0 k x0 x5 x6 (wrap64 (x7 + 1)))) else (none)) else (none)) else (parts_right.l0 k x0 x5 x6 (wrap64 (x7 + 1)))) else (some false))) else (none)) else (none)) else (some true)
def parts_right.f (k : Nat) (l0 : List (S38)) : Option (Bool) := parts_right.l0 k l0 l0 (l0.length : Int) 0
theorem parts_right.mono_l : ∀ k, (∀ y0 y1 y2 y3, LeO (parts_right.l0 k y0 y1 y2 y3) (parts_right.l0 (k + 1) y0 y1 y2 y3))
 | 0 => fun _ _ _ _ r h => by simp [parts_right.l0] at h
 | k + 1 => by
  have ih0 := parts_right.mono_l k
  ·intro y0 y1 y2 y3
   unfold parts_right.l0
   repeat' first
   | (with_reducible exact ih0 _ _ _ _)
   | (with_reducible exact parts_Check.mono _ _ _ _ _)
   | (with_reducible exact LeO.refl _)
   | (with_reducible exact LeO.none _)
   | (with_reducible refine LeO.ite ?_ ?_)
   | (with_reducible refine LeO.bind ?_ (fun _ => ?_))
   | exact ih0 _ _ _ _
   | exact parts_Check.mono _ _ _ _ _
   | exact LeO.none _
   | refine LeO.ite ?_ ?_
   | refine LeO.bind ?_ (fun _ => ?_)
theorem parts_right.mono : ∀ a0 k, LeO (parts_right.f k a0) (parts_right.f (k + 1) a0) := by
 intro a0 k
 have ih0 := parts_right.mono_l k
 unfold parts_right.f
 repeat' first
   | (with_reducible exact ih0 _ _ _ _)
   | (with_reducible exact parts_Check.mono _ _ _ _ _)
   | (with_reducible exact LeO.refl _)
   | (with_reducible exact LeO.none _)
   | (with_reducible refine LeO.ite ?_ ?_)
   | (with_reducible refine LeO.bind ?_ (fun _ => ?_))
   | exact ih0 _ _ _ _
   | exact parts_Check.mono _ _ _ _ _
   | exact LeO.none _
   | refine LeO.ite ?_ ?_
   | refine LeO.bind ?_ (fun _ => ?_)
def parts_right.T4 : Bool × List (List Nat × List Nat) := (true, [([], []), ([0], [0]), ([1], [1]), ([2, 1], [2]), ([3], [3]), ([4, 3], [3, 4]), ([5, 3, 3], [3, 5]), ([6], [6]), ([7, 6], [6, 7]), ([6], [6]), ([6], [6]), ([10, 6], [6, 10]), ([9, 11, 6], [6, 9, 11]), ([12, 6], [6, 12]), ([13, 6], [6, 13]), ([8, 14, 6], [6, 8, 14]), ([6, 15, 3], [3, 6, 15]), ([3, 16], [3, 16])])
def parts_right.B4 : List Nat := [0, 1, 3, 7, 15, 31, 63, 127, 255, 127, 127, 1151, 3711, 7807, 15999, 32767, 65535, 131071]
theorem parts_right.tab4 : rtab .any (opsOf Tryz.f20 4) = parts_right.T4 := by kernel_rfl
theorem parts_right.bits4 : waitsOk parts_right.T4.2 parts_right.B4 = true := by kernel_rfl
set_option maxHeartbeats 8000000 in
set_option maxRecDepth 100000 in
theorem parts_right.calls (k : Nat) (A0 : Option Addr) (c0 : Nat) (l0 : List (S38)) (r : Bool) (w : World) (hr0 : Kd.C k38 w A0 l0.length l0) (hc0 : l0.length ≤ c0) (h : parts_right.f k l0 = some r) :
  Calls Tryz.prog 20 #[.slice A0 l0.length c0] w fun e w' => e = .returned (.bool r) ∧ Below w.heap.size w w' := by
 have hu38 := Tryz.underlying38
 have HR0 := zaaq hr0
 have HC0 := zaaq hc0
 clear hr0 hc0
 have HB := zaaq (Below.refl w.heap.size w)
 have H : (parts_right.l0 k l0 l0 (l0.length : Int) 0) = some r := h
 clear h
 have H' := zaaq H
 clear H
 go_enter Tryz.func20, Tryz.ntmps20
 go_wp2
 go_loopg [7] k (fun kq v7 w' => ∃ (zaar : Int), v7 = .int .i64 zaar ∧ Aside0 (parts_right.l0 kq l0 l0 (l0.length : Int) zaar = some r) ∧ Aside0 (kq ≤ k) ∧ Aside0 (Below w.heap.size w w'))
 case atStart => exact ⟨(0), (by first | rfl | (simp; done) | (simp [*]; done)), H', ⟨Nat.le_refl _⟩, ⟨by repeat (first | (with_reducible first | exact HB.out | apply zaak | apply zaai | apply zaaj) | exact HB.out)⟩⟩
 case round =>
  clear H'
  obtain ⟨zaar, rfl, HA, HK1, HB⟩ := hrel
  cases gk with
  | zero => exact absurd HA.out (by simp [parts_right.l0])
  | succ k1 =>
   have H := HA.out
   clear HA
   simp only [parts_right.l0] at H
   by_cases c2 : zaar < (l0.length : Int)
   ·rw [if_pos c2] at H
    have c2b0 : decide (zaar < (l0.length : Int)) = true := decide_eq_true c2
    clear c2
    by_cases c3 : 0 ≤ zaar
    ·rw [if_pos c3] at H
     have c3b0 : decide (0 ≤ zaar) = true := decide_eq_true c3
     clear c3
     by_cases c4 : zaar < (l0.length : Int)
     ·rw [if_pos c4] at H
      have c4b0 : decide (zaar < (l0.length : Int)) = true := decide_eq_true c4
      clear c4
      replace H := Option.bind_eq_some_iff.mp H
      obtain ⟨t285, A50, H⟩ := H
      replace H : (if t285 = 0 then (if zaar > 0 then (if 0 ≤ (wrap64 (zaar - 1)) then (if (wrap64 (zaar - 1)) < (l0.length : Int) then (if ((rd_T38 l0 zaar).f0) ≤ ((rd_T38 l0 (wrap64 (zaar - 1))).f0) then (some false) else (parts_right.l0 k1 l0 l0 (l0.length : Int) (wrap64 (zaar + 1)))) else (none)) else (none)) else (parts_right.l0 k1 l0 l0 (l0.length : Int) (wrap64 (zaar + 1)))) else (some false)) = some r := H
      have A5 := zaaq A50
      clear A50
      by_cases c6 : t285 = 0
      ·rw [if_pos c6] at H
       have c6b0 : (t285 == 0) = true := beq_iff_eq.mpr c6
       have c6b1 : (t285 != 0) = false := bne_eq_false_iff_eq.mpr c6
       clear c6
       by_cases c7 : zaar > 0
       ·rw [if_pos c7] at H
        have c7b0 : decide (0 < zaar) = true := decide_eq_true c7
        clear c7
        obtain ⟨ji8, hji8⟩ : ∃ j_ : Int, (wrap64 (zaar - 1)) = j_ := ⟨_, rfl⟩
        replace H : (if 0 ≤ (ji8) then (if (ji8) < (l0.length : Int) then (if ((rd_T38 l0 zaar).f0) ≤ ((rd_T38 l0 (ji8)).f0) then (some false) else (parts_right.l0 k1 l0 l0 (l0.length : Int) (wrap64 (zaar + 1)))) else (none)) else (none)) = some r := by first | (rw [hji8] at H; exact H) | (simp only [hji8] at H ⊢; exact H)
        (try rw [hji8] at A5)
        have hji8w : (IntKind.i64.wrap (zaar - 1)) = ji8 := (i64_w _).trans hji8
        by_cases c9 : 0 ≤ (ji8)
        ·rw [if_pos c9] at H
         have c9b0 : decide (0 ≤ (ji8)) = true := decide_eq_true c9
         clear c9
         by_cases c10 : (ji8) < (l0.length : Int)
         ·rw [if_pos c10] at H
          have c10b0 : decide ((ji8) < (l0.length : Int)) = true := decide_eq_true c10
          clear c10
          by_cases c11 : ((rd_T38 l0 zaar).f0) ≤ ((rd_T38 l0 (ji8)).f0)
          ·rw [if_pos c11] at H
           have c11b0 : decide (((rd_T38 l0 zaar).f0) ≤ ((rd_T38 l0 (ji8)).f0)) = true := decide_eq_true c11
           clear c11
           obtain rfl := Option.some.inj H
           have p283 : 0 ≤ (zaar : Int) := of_decide_eq_true (by first | (with_reducible assumption) | assumption)
           have q283 : zaar < (l0.length : Int) := of_decide_eq_true (by first | (with_reducible assumption) | assumption)
           obtain ⟨ad283, A283_3, c283_3, e283, hx283_0, hx283_1, hx283_2, hx283_3, hl283_3, hi283_3⟩ := at_T38 HR0.out zaar p283 q283
           cases e283
           replace hx283_0 := (HB.out.cell (zaad w _ hx283_0)).trans hx283_0
           replace hx283_1 := (HB.out.cell (zaad w _ hx283_1)).trans hx283_1
           replace hx283_2 := (HB.out.cell (zaad w _ hx283_2)).trans hx283_2
           replace hx283_3 := (HB.out.cell (zaad w _ hx283_3)).trans hx283_3
           have HR283_3 := zaaq hi283_3
           have HC283_3 := zaaq hl283_3
           clear hi283_3 hl283_3
           replace p283 := eq_true p283
           replace q283 := eq_true q283
           try go_wp2_with (first | ((with_reducible refine gate_dst (N := 4) rfl ?_); refine box_event ?hg (N := 4) ?hd (cs := #[.int .i64 0, .int .i64 0, .string (⟨#[]⟩ : ByteArray), .slice none 0 0]) (t := 38) ?hr ?_; (case hd => rfl); (case hg => rfl); (case hr => first | (go_simp; done) | (go_simp; rfl)); intro zaat hg w12 hbox hb; have n0_ := zaaq (below_step (by repeat (first | (with_reducible first | exact HB.out | apply zaak | apply zaai | apply zaaj) | exact HB.out)) hb); have n1_ := zaaq (hbox); have n2_ := zaaq ((by rw [hg]; exact (below_size (by repeat (first | (with_reducible first | exact HB.out | apply zaak | apply zaai | apply zaaj) | exact HB.out))) : w.heap.size ≤ zaat)); have n3_ := zaaq ((by rw [hg]; exact (below_size (by repeat (first | (with_reducible first | exact HB.out | apply zaak | apply zaai | apply zaaj) | exact HB.out))) : w.heap.size ≤ zaat)); clear HB; have HB := n0_; have zaas := n1_; have zacb := n2_; have zabd := n3_; clear n0_ n1_ n2_ n3_; clear hb hbox hg; have zabi : w12.cell? ⟨zaat, 0, none⟩ = some (.int .i64 0) := (zaal zaas.out 0).trans rfl; have zabj : w12.cell? ⟨zaat, 1, none⟩ = some (.int .i64 0) := (zaal zaas.out 1).trans rfl; have zabn : w12.cell? ⟨zaat, 2, none⟩ = some (.string (⟨#[]⟩ : ByteArray)) := (zaal zaas.out 2).trans rfl; have zabo : w12.cell? ⟨zaat, 3, none⟩ = some (.slice none 0 0) := (zaal zaas.out 3).trans rfl; have zabk := zaam zaas.out 0; have zabl := zaam zaas.out 1; have zabp := zaam zaas.out 2; have zabq := zaam zaas.out 3))
           have n0_ : Aside0 (((((w12.setCell ⟨zaat, 0, none⟩ (.int .i64 ((rd_T38 l0 zaar).f0))).setCell ⟨zaat, 1, none⟩ (.int .i64 ((rd_T38 l0 zaar).f1))).setCell ⟨zaat, 2, none⟩ (.string ((rd_T38 l0 zaar).f2))).setCell ⟨zaat, 3, none⟩ (.slice A283_3 ((rd_T38 l0 zaar).f3).length c283_3)).heap[zaat]? = some (.cells #[.int .i64 ((rd_T38 l0 zaar).f0), .int .i64 ((rd_T38 l0 zaar).f1), .string ((rd_T38 l0 zaar).f2), .slice A283_3 ((rd_T38 l0 zaar).f3).length c283_3] 38 (0, 0))) := ⟨by (with_reducible repeat (first | refine zaae ?_ _ | refine zaag ?_ | refine zaaf ?_ _)); refine blk_put (cs := #[.int .i64 ((rd_T38 l0 zaar).f0), .int .i64 ((rd_T38 l0 zaar).f1), .string ((rd_T38 l0 zaar).f2), .slice none 0 0]) ?_ 3 _ rfl; (with_reducible repeat (first | refine zaae ?_ _ | refine zaag ?_ | refine zaaf ?_ _)); refine blk_put (cs := #[.int .i64 ((rd_T38 l0 zaar).f0), .int .i64 ((rd_T38 l0 zaar).f1), .string (⟨#[]⟩ : ByteArray), .slice none 0 0]) ?_ 2 _ rfl; (with_reducible repeat (first | refine zaae ?_ _ | refine zaag ?_ | refine zaaf ?_ _)); refine blk_put (cs := #[.int .i64 ((rd_T38 l0 zaar).f0), .int .i64 0, .string (⟨#[]⟩ : ByteArray), .slice none 0 0]) ?_ 1 _ rfl; (with_reducible repeat (first | refine zaae ?_ _ | refine zaag ?_ | refine zaaf ?_ _)); refine blk_put (cs := #[.int .i64 0, .int .i64 0, .string (⟨#[]⟩ : ByteArray), .slice none 0 0]) ?_ 0 _ rfl; (with_reducible repeat (first | refine zaae ?_ _ | refine zaag ?_ | refine zaaf ?_ _)); exact zaas.out⟩
           have n1_ : Aside0 (Below w.heap.size w ((((w12.setCell ⟨zaat, 0, none⟩ (.int .i64 ((rd_T38 l0 zaar).f0))).setCell ⟨zaat, 1, none⟩ (.int .i64 ((rd_T38 l0 zaar).f1))).setCell ⟨zaat, 2, none⟩ (.string ((rd_T38 l0 zaar).f2))).setCell ⟨zaat, 3, none⟩ (.slice A283_3 ((rd_T38 l0 zaar).f3).length c283_3))) := ⟨by repeat (first | (with_reducible first | exact HB.out | apply zaak | apply zaai | apply zaaj | refine zaah ?_ zabd.out) | exact HB.out)⟩
           (try clear zaas)
           (try clear HB)
           generalize ((((w12.setCell ⟨zaat, 0, none⟩ (.int .i64 ((rd_T38 l0 zaar).f0))).setCell ⟨zaat, 1, none⟩ (.int .i64 ((rd_T38 l0 zaar).f1))).setCell ⟨zaat, 2, none⟩ (.string ((rd_T38 l0 zaar).f2))).setCell ⟨zaat, 3, none⟩ (.slice A283_3 ((rd_T38 l0 zaar).f3).length c283_3)) = w14 at n0_ n1_ ⊢
           have zaas := n0_
           have HB := n1_
           clear n0_ n1_
           have n0_ := zaaq (zaag zaas.out)
           have n1_ := zaaq (zaaj HB.out)
           clear zaas
           clear HB
           have zaas := n0_
           have HB := n1_
           clear n0_ n1_
           have p286 : 0 ≤ ((ji8) : Int) := of_decide_eq_true (by first | (with_reducible assumption) | assumption)
           have q286 : (ji8) < (l0.length : Int) := of_decide_eq_true (by first | (with_reducible assumption) | assumption)
           obtain ⟨ad286, A286_3, c286_3, e286, hx286_0, hx286_1, hx286_2, hx286_3, hl286_3, hi286_3⟩ := at_T38 HR0.out (ji8) p286 q286
           have hw286_3 := hx286_3
           have hw286_2 := hx286_2
           have hw286_1 := hx286_1
           have hw286_0 := hx286_0
           obtain rfl : ad283 = ad286 := (by injection e286)
           replace hx286_0 := (HB.out.cell (zaad w _ hx286_0)).trans hx286_0
           replace hx286_1 := (HB.out.cell (zaad w _ hx286_1)).trans hx286_1
           replace hx286_2 := (HB.out.cell (zaad w _ hx286_2)).trans hx286_2
           replace hx286_3 := (HB.out.cell (zaad w _ hx286_3)).trans hx286_3
           have HR286_3 := zaaq hi286_3
           have HC286_3 := zaaq hl286_3
           clear hi286_3 hl286_3
           replace p286 := eq_true p286
           replace q286 := eq_true q286
           refine start_ (n := 18) (S := fun w' => w'.cell? ⟨zaat, 0, none⟩ = some (.int .i64 ((rd_T38 l0 zaar).f0)) ∧ w'.cell? ⟨zaat, 1, none⟩ = some (.int .i64 ((rd_T38 l0 zaar).f1)) ∧ w'.cell? ⟨zaat, 2, none⟩ = some (.string ((rd_T38 l0 zaar).f2)) ∧ w'.cell? ⟨zaat, 3, none⟩ = some (.slice A283_3 ((rd_T38 l0 zaar).f3).length c283_3) ∧ w'.cell? (ad283.add (((ji8)).toNat * 4)) = some (.int .i64 ((rd_T38 l0 (ji8)).f0)) ∧ w'.cell? ⟨(ad283.add (((ji8)).toNat * 4)).block, (ad283.add (((ji8)).toNat * 4)).off + 1, none⟩ = some (.int .i64 ((rd_T38 l0 (ji8)).f1)) ∧ w'.cell? ⟨(ad283.add (((ji8)).toNat * 4)).block, (ad283.add (((ji8)).toNat * 4)).off + 2, none⟩ = some (.string ((rd_T38 l0 (ji8)).f2)) ∧ w'.cell? ⟨(ad283.add (((ji8)).toNat * 4)).block, (ad283.add (((ji8)).toNat * 4)).off + 3, none⟩ = some (.slice A286_3 ((rd_T38 l0 (ji8)).f3).length c286_3)) (ds := []) zasq0 (by kernel_rfl) rfl rfl ⟨(zaal zaas.out 0).trans rfl, (zaal zaas.out 1).trans rfl, (zaal zaas.out 2).trans rfl, (zaal zaas.out 3).trans rfl, ((HB.out.cell (zaad w _ hw286_0)).trans hw286_0), ((HB.out.cell (zaad w _ hw286_1)).trans hw286_1), ((HB.out.cell (zaad w _ hw286_2)).trans hw286_2), ((HB.out.cell (zaad w _ hw286_3)).trans hw286_3)⟩ (fun hHeld => ?_); refine with_tabW parts_right.tab4 parts_right.bits4 (fun HT_ HW_ => ?_)
           generalize w14.drew = w15 at zaas HB HR286_3 hx286_0 hx286_1 hx286_2 hx286_3 hHeld ⊢
           refine tt 0 12 HT_ HW_ ?_
           refine one_ (i := 1) (N := some 13) zasq2 rfl rfl (one_of HT_.out (by kernel_rfl)) (by decide) (fun K hK => ?_)
           refine goes_ Tryz.func21 (by kernel_rfl) rfl #[.agg #[.int .i64 ((rd_T38 l0 zaar).f0), .int .i64 ((rd_T38 l0 zaar).f1), .string ((rd_T38 l0 zaar).f2), .slice A283_3 ((rd_T38 l0 zaar).f3).length c283_3]] (by rfl) rfl rfl (by (try simp only [zaan, zaao, zaap]); first | done | rfl) ?_
           with_reducible refine (parts_Check.calls k1 ((rd_T38 l0 zaar).f0) ((rd_T38 l0 zaar).f1) ((rd_T38 l0 zaar).f2) _ _ ((rd_T38 l0 zaar).f3) t285 _ ?side1 ?side2 A5.out).mono ?_
           (case side1 => repeat (first | exact (Kd.C_below HR283_3.out HB.out) | (with_reducible refine Kd.C_alloc ?_ _) | (with_reducible refine Kd.C_drewN ?_ _) | (with_reducible refine Kd.C_drew ?_)))
           (case side2 => exact HC283_3.out)
           rintro e w16 ⟨rfl, hb⟩
           refine ⟨_, rfl, ?_⟩
           have n0_ := zaaq (blk_below (g := zaat) (o := .cells #[.int .i64 ((rd_T38 l0 zaar).f0), .int .i64 ((rd_T38 l0 zaar).f1), .string ((rd_T38 l0 zaar).f2), .slice A283_3 ((rd_T38 l0 zaar).f3).length c283_3] 38 (0, 0)) (by (with_reducible repeat (first | refine zaae ?_ _ | refine zaag ?_ | refine zaaf ?_ _)); exact zaas.out) hb)
           have n1_ := zaaq (below_step (by repeat (first | (with_reducible first | exact HB.out | apply zaak | apply zaai | apply zaaj | refine zaah ?_ zabd.out) | exact HB.out)) hb)
           clear zaas
           clear HB
           have zaas := n0_
           have HB := n1_
           clear n0_ n1_
           (try clear hb)
           (try clear hb2)
           (try clear hk)
           (try clear hi)
           refine hK.out _ _ ⟨(zaal zaas.out 0).trans rfl, (zaal zaas.out 1).trans rfl, (zaal zaas.out 2).trans rfl, (zaal zaas.out 3).trans rfl, ((HB.out.cell (zaad w _ hw286_0)).trans hw286_0), ((HB.out.cell (zaad w _ hw286_1)).trans hw286_1), ((HB.out.cell (zaad w _ hw286_2)).trans hw286_2), ((HB.out.cell (zaad w _ hw286_3)).trans hw286_3)⟩ (fun hHeld => ?_)
           clear hK K
           refine nt 13 ?_
           refine pt 2 14 HT_ ?_
           refine pt 3 15 HT_ ?_
           refine pt 4 16 HT_ ?_
           refine pt 5 17 HT_ ?_
           refine pt 6 18 HT_ ?_
           refine pt 7 19 HT_ ?_
           refine pt 9 21 HT_ ?_
           refine pt 10 22 HT_ ?_
           refine pt 11 23 HT_ ?_
           refine pt 12 24 HT_ ?_
           refine pt 13 25 HT_ ?_
           refine tt 8 20 HT_ HW_ ?_
           refine tt 14 26 HT_ HW_ ?_
           refine pt 15 27 HT_ ?_
           refine pt 16 28 HT_ ?_
           refine pt 17 29 HT_ ?_
           refine done_ (done_of HT_.out (by kernel_rfl)) ?_
           try go_wp2
           go_ret
           exact ⟨by first | rfl | (simp [errW_none, errW_some] <;> rfl) | (simp only [← hji8]; first | rfl | (simp [errW_none, errW_some] <;> rfl)) | (simp [*, errW_none, errW_some] <;> rfl), by repeat (first | (with_reducible first | exact HB.out | apply zaak | apply zaai | apply zaaj | refine zaah ?_ zabd.out) | exact HB.out)⟩
          ·rw [if_neg c11] at H
           have c11b0 : decide (((rd_T38 l0 zaar).f0) ≤ ((rd_T38 l0 (ji8)).f0)) = false := decide_eq_false c11
           clear c11
           have H' := zaaq H
           clear H
           have p283 : 0 ≤ (zaar : Int) := of_decide_eq_true (by first | (with_reducible assumption) | assumption)
           have q283 : zaar < (l0.length : Int) := of_decide_eq_true (by first | (with_reducible assumption) | assumption)
           obtain ⟨ad283, A283_3, c283_3, e283, hx283_0, hx283_1, hx283_2, hx283_3, hl283_3, hi283_3⟩ := at_T38 HR0.out zaar p283 q283
           cases e283
           replace hx283_0 := (HB.out.cell (zaad w _ hx283_0)).trans hx283_0
           replace hx283_1 := (HB.out.cell (zaad w _ hx283_1)).trans hx283_1
           replace hx283_2 := (HB.out.cell (zaad w _ hx283_2)).trans hx283_2
           replace hx283_3 := (HB.out.cell (zaad w _ hx283_3)).trans hx283_3
           have HR283_3 := zaaq hi283_3
           have HC283_3 := zaaq hl283_3
           clear hi283_3 hl283_3
           replace p283 := eq_true p283
           replace q283 := eq_true q283
           try go_wp2_with (first | ((with_reducible refine gate_dst (N := 4) rfl ?_); refine box_event ?hg (N := 4) ?hd (cs := #[.int .i64 0, .int .i64 0, .string (⟨#[]⟩ : ByteArray), .slice none 0 0]) (t := 38) ?hr ?_; (case hd => rfl); (case hg => rfl); (case hr => first | (go_simp; done) | (go_simp; rfl)); intro zaat hg w17 hbox hb; have n0_ := zaaq (below_step (by repeat (first | (with_reducible first | exact HB.out | apply zaak | apply zaai | apply zaaj) | exact HB.out)) hb); have n1_ := zaaq (hbox); have n2_ := zaaq ((by rw [hg]; exact (below_size (by repeat (first | (with_reducible first | exact HB.out | apply zaak | apply zaai | apply zaaj) | exact HB.out))) : w.heap.size ≤ zaat)); have n3_ := zaaq ((by rw [hg]; exact (below_size (by repeat (first | (with_reducible first | exact HB.out | apply zaak | apply zaai | apply zaaj) | exact HB.out))) : w.heap.size ≤ zaat)); clear HB; have HB := n0_; have zaas := n1_; have zacb := n2_; have zabd := n3_; clear n0_ n1_ n2_ n3_; clear hb hbox hg; have zaeg : w17.cell? ⟨zaat, 0, none⟩ = some (.int .i64 0) := (zaal zaas.out 0).trans rfl; have zaeh : w17.cell? ⟨zaat, 1, none⟩ = some (.int .i64 0) := (zaal zaas.out 1).trans rfl; have zaei : w17.cell? ⟨zaat, 2, none⟩ = some (.string (⟨#[]⟩ : ByteArray)) := (zaal zaas.out 2).trans rfl; have zaej : w17.cell? ⟨zaat, 3, none⟩ = some (.slice none 0 0) := (zaal zaas.out 3).trans rfl; have zaek := zaam zaas.out 0; have zael := zaam zaas.out 1; have zaem := zaam zaas.out 2; have zaen := zaam zaas.out 3))
           have n0_ : Aside0 (((((w17.setCell ⟨zaat, 0, none⟩ (.int .i64 ((rd_T38 l0 zaar).f0))).setCell ⟨zaat, 1, none⟩ (.int .i64 ((rd_T38 l0 zaar).f1))).setCell ⟨zaat, 2, none⟩ (.string ((rd_T38 l0 zaar).f2))).setCell ⟨zaat, 3, none⟩ (.slice A283_3 ((rd_T38 l0 zaar).f3).length c283_3)).heap[zaat]? = some (.cells #[.int .i64 ((rd_T38 l0 zaar).f0), .int .i64 ((rd_T38 l0 zaar).f1), .string ((rd_T38 l0 zaar).f2), .slice A283_3 ((rd_T38 l0 zaar).f3).length c283_3] 38 (0, 0))) := ⟨by (with_reducible repeat (first | refine zaae ?_ _ | refine zaag ?_ | refine zaaf ?_ _)); refine blk_put (cs := #[.int .i64 ((rd_T38 l0 zaar).f0), .int .i64 ((rd_T38 l0 zaar).f1), .string ((rd_T38 l0 zaar).f2), .slice none 0 0]) ?_ 3 _ rfl; (with_reducible repeat (first | refine zaae ?_ _ | refine zaag ?_ | refine zaaf ?_ _)); refine blk_put (cs := #[.int .i64 ((rd_T38 l0 zaar).f0), .int .i64 ((rd_T38 l0 zaar).f1), .string (⟨#[]⟩ : ByteArray), .slice none 0 0]) ?_ 2 _ rfl; (with_reducible repeat (first | refine zaae ?_ _ | refine zaag ?_ | refine zaaf ?_ _)); refine blk_put (cs := #[.int .i64 ((rd_T38 l0 zaar).f0), .int .i64 0, .string (⟨#[]⟩ : ByteArray), .slice none 0 0]) ?_ 1 _ rfl; (with_reducible repeat (first | refine zaae ?_ _ | refine zaag ?_ | refine zaaf ?_ _)); refine blk_put (cs := #[.int .i64 0, .int .i64 0, .string (⟨#[]⟩ : ByteArray), .slice none 0 0]) ?_ 0 _ rfl; (with_reducible repeat (first | refine zaae ?_ _ | refine zaag ?_ | refine zaaf ?_ _)); exact zaas.out⟩
           have n1_ : Aside0 (Below w.heap.size w ((((w17.setCell ⟨zaat, 0, none⟩ (.int .i64 ((rd_T38 l0 zaar).f0))).setCell ⟨zaat, 1, none⟩ (.int .i64 ((rd_T38 l0 zaar).f1))).setCell ⟨zaat, 2, none⟩ (.string ((rd_T38 l0 zaar).f2))).setCell ⟨zaat, 3, none⟩ (.slice A283_3 ((rd_T38 l0 zaar).f3).length c283_3))) := ⟨by repeat (first | (with_reducible first | exact HB.out | apply zaak | apply zaai | apply zaaj | refine zaah ?_ zabd.out) | exact HB.out)⟩
           (try clear zaas)
           (try clear HB)
           generalize ((((w17.setCell ⟨zaat, 0, none⟩ (.int .i64 ((rd_T38 l0 zaar).f0))).setCell ⟨zaat, 1, none⟩ (.int .i64 ((rd_T38 l0 zaar).f1))).setCell ⟨zaat, 2, none⟩ (.string ((rd_T38 l0 zaar).f2))).setCell ⟨zaat, 3, none⟩ (.slice A283_3 ((rd_T38 l0 zaar).f3).length c283_3)) = w19 at n0_ n1_ ⊢
           have zaas := n0_
           have HB := n1_
           clear n0_ n1_
           have n0_ := zaaq (zaag zaas.out)
           have n1_ := zaaq (zaaj HB.out)
           clear zaas
           clear HB
           have zaas := n0_
           have HB := n1_
           clear n0_ n1_
           have p286 : 0 ≤ ((ji8) : Int) := of_decide_eq_true (by first | (with_reducible assumption) | assumption)
           have q286 : (ji8) < (l0.length : Int) := of_decide_eq_true (by first | (with_reducible assumption) | assumption)
           obtain ⟨ad286, A286_3, c286_3, e286, hx286_0, hx286_1, hx286_2, hx286_3, hl286_3, hi286_3⟩ := at_T38 HR0.out (ji8) p286 q286
           have hw286_3 := hx286_3
           have hw286_2 := hx286_2
           have hw286_1 := hx286_1
           have hw286_0 := hx286_0
           obtain rfl : ad283 = ad286 := (by injection e286)
           replace hx286_0 := (HB.out.cell (zaad w _ hx286_0)).trans hx286_0
           replace hx286_1 := (HB.out.cell (zaad w _ hx286_1)).trans hx286_1
           replace hx286_2 := (HB.out.cell (zaad w _ hx286_2)).trans hx286_2
           replace hx286_3 := (HB.out.cell (zaad w _ hx286_3)).trans hx286_3
           have HR286_3 := zaaq hi286_3
           have HC286_3 := zaaq hl286_3
           clear hi286_3 hl286_3
           replace p286 := eq_true p286
           replace q286 := eq_true q286
           refine start_ (n := 18) (S := fun w' => w'.cell? ⟨zaat, 0, none⟩ = some (.int .i64 ((rd_T38 l0 zaar).f0)) ∧ w'.cell? ⟨zaat, 1, none⟩ = some (.int .i64 ((rd_T38 l0 zaar).f1)) ∧ w'.cell? ⟨zaat, 2, none⟩ = some (.string ((rd_T38 l0 zaar).f2)) ∧ w'.cell? ⟨zaat, 3, none⟩ = some (.slice A283_3 ((rd_T38 l0 zaar).f3).length c283_3) ∧ w'.cell? (ad283.add (((ji8)).toNat * 4)) = some (.int .i64 ((rd_T38 l0 (ji8)).f0)) ∧ w'.cell? ⟨(ad283.add (((ji8)).toNat * 4)).block, (ad283.add (((ji8)).toNat * 4)).off + 1, none⟩ = some (.int .i64 ((rd_T38 l0 (ji8)).f1)) ∧ w'.cell? ⟨(ad283.add (((ji8)).toNat * 4)).block, (ad283.add (((ji8)).toNat * 4)).off + 2, none⟩ = some (.string ((rd_T38 l0 (ji8)).f2)) ∧ w'.cell? ⟨(ad283.add (((ji8)).toNat * 4)).block, (ad283.add (((ji8)).toNat * 4)).off + 3, none⟩ = some (.slice A286_3 ((rd_T38 l0 (ji8)).f3).length c286_3)) (ds := []) zasq0 (by kernel_rfl) rfl rfl ⟨(zaal zaas.out 0).trans rfl, (zaal zaas.out 1).trans rfl, (zaal zaas.out 2).trans rfl, (zaal zaas.out 3).trans rfl, ((HB.out.cell (zaad w _ hw286_0)).trans hw286_0), ((HB.out.cell (zaad w _ hw286_1)).trans hw286_1), ((HB.out.cell (zaad w _ hw286_2)).trans hw286_2), ((HB.out.cell (zaad w _ hw286_3)).trans hw286_3)⟩ (fun hHeld => ?_); refine with_tabW parts_right.tab4 parts_right.bits4 (fun HT_ HW_ => ?_)
           generalize w19.drew = w20 at zaas HB HR286_3 hx286_0 hx286_1 hx286_2 hx286_3 hHeld ⊢
           refine tt 0 12 HT_ HW_ ?_
           refine one_ (i := 1) (N := some 13) zasq2 rfl rfl (one_of HT_.out (by kernel_rfl)) (by decide) (fun K hK => ?_)
           refine goes_ Tryz.func21 (by kernel_rfl) rfl #[.agg #[.int .i64 ((rd_T38 l0 zaar).f0), .int .i64 ((rd_T38 l0 zaar).f1), .string ((rd_T38 l0 zaar).f2), .slice A283_3 ((rd_T38 l0 zaar).f3).length c283_3]] (by rfl) rfl rfl (by (try simp only [zaan, zaao, zaap]); first | done | rfl) ?_
           with_reducible refine (parts_Check.calls k1 ((rd_T38 l0 zaar).f0) ((rd_T38 l0 zaar).f1) ((rd_T38 l0 zaar).f2) _ _ ((rd_T38 l0 zaar).f3) t285 _ ?side1 ?side2 A5.out).mono ?_
           (case side1 => repeat (first | exact (Kd.C_below HR283_3.out HB.out) | (with_reducible refine Kd.C_alloc ?_ _) | (with_reducible refine Kd.C_drewN ?_ _) | (with_reducible refine Kd.C_drew ?_)))
           (case side2 => exact HC283_3.out)
           rintro e w21 ⟨rfl, hb⟩
           refine ⟨_, rfl, ?_⟩
           have n0_ := zaaq (blk_below (g := zaat) (o := .cells #[.int .i64 ((rd_T38 l0 zaar).f0), .int .i64 ((rd_T38 l0 zaar).f1), .string ((rd_T38 l0 zaar).f2), .slice A283_3 ((rd_T38 l0 zaar).f3).length c283_3] 38 (0, 0)) (by (with_reducible repeat (first | refine zaae ?_ _ | refine zaag ?_ | refine zaaf ?_ _)); exact zaas.out) hb)
           have n1_ := zaaq (below_step (by repeat (first | (with_reducible first | exact HB.out | apply zaak | apply zaai | apply zaaj | refine zaah ?_ zabd.out) | exact HB.out)) hb)
           clear zaas
           clear HB
           have zaas := n0_
           have HB := n1_
           clear n0_ n1_
           (try clear hb)
           (try clear hb2)
           (try clear hk)
           (try clear hi)
           refine hK.out _ _ ⟨(zaal zaas.out 0).trans rfl, (zaal zaas.out 1).trans rfl, (zaal zaas.out 2).trans rfl, (zaal zaas.out 3).trans rfl, ((HB.out.cell (zaad w _ hw286_0)).trans hw286_0), ((HB.out.cell (zaad w _ hw286_1)).trans hw286_1), ((HB.out.cell (zaad w _ hw286_2)).trans hw286_2), ((HB.out.cell (zaad w _ hw286_3)).trans hw286_3)⟩ (fun hHeld => ?_)
           clear hK K
           refine nt 13 ?_
           refine pt 2 14 HT_ ?_
           refine pt 3 15 HT_ ?_
           refine pt 4 16 HT_ ?_
           refine pt 5 17 HT_ ?_
           refine pt 6 18 HT_ ?_
           refine pt 7 19 HT_ ?_
           refine pt 9 21 HT_ ?_
           refine pt 10 22 HT_ ?_
           refine pt 11 23 HT_ ?_
           refine pt 12 24 HT_ ?_
           refine pt 13 25 HT_ ?_
           refine tt 8 20 HT_ HW_ ?_
           refine tt 14 26 HT_ HW_ ?_
           refine pt 15 27 HT_ ?_
           refine pt 16 28 HT_ ?_
           refine pt 17 29 HT_ ?_
           refine done_ (done_of HT_.out (by kernel_rfl)) ?_
           try go_wp2
           go_roundg k1
           case measure => have := HK1.out; omega
           case rel => exact ⟨(wrap64 (zaar + 1)), (by first | rfl | (simp; done) | (simp [*]; done)), H', ⟨by have := HK1.out; omega⟩, ⟨by repeat (first | (with_reducible first | exact HB.out | apply zaak | apply zaai | apply zaaj | refine zaah ?_ zabd.out) | exact HB.out)⟩⟩
         ·rw [if_neg c10] at H
          exact absurd H (by simp)
        ·rw [if_neg c9] at H
         exact absurd H (by simp)
       ·rw [if_neg c7] at H
        have c7b0 : decide (0 < zaar) = false := decide_eq_false c7
        clear c7
        have H' := zaaq H
        clear H
        have p283 : 0 ≤ (zaar : Int) := of_decide_eq_true (by first | (with_reducible assumption) | assumption)
        have q283 : zaar < (l0.length : Int) := of_decide_eq_true (by first | (with_reducible assumption) | assumption)
        obtain ⟨ad283, A283_3, c283_3, e283, hx283_0, hx283_1, hx283_2, hx283_3, hl283_3, hi283_3⟩ := at_T38 HR0.out zaar p283 q283
        cases e283
        replace hx283_0 := (HB.out.cell (zaad w _ hx283_0)).trans hx283_0
        replace hx283_1 := (HB.out.cell (zaad w _ hx283_1)).trans hx283_1
        replace hx283_2 := (HB.out.cell (zaad w _ hx283_2)).trans hx283_2
        replace hx283_3 := (HB.out.cell (zaad w _ hx283_3)).trans hx283_3
        have HR283_3 := zaaq hi283_3
        have HC283_3 := zaaq hl283_3
        clear hi283_3 hl283_3
        replace p283 := eq_true p283
        replace q283 := eq_true q283
        try go_wp2_with (first | ((with_reducible refine gate_dst (N := 4) rfl ?_); refine box_event ?hg (N := 4) ?hd (cs := #[.int .i64 0, .int .i64 0, .string (⟨#[]⟩ : ByteArray), .slice none 0 0]) (t := 38) ?hr ?_; (case hd => rfl); (case hg => rfl); (case hr => first | (go_simp; done) | (go_simp; rfl)); intro zaat hg w22 hbox hb; have n0_ := zaaq (below_step (by repeat (first | (with_reducible first | exact HB.out | apply zaak | apply zaai | apply zaaj) | exact HB.out)) hb); have n1_ := zaaq (hbox); have n2_ := zaaq ((by rw [hg]; exact (below_size (by repeat (first | (with_reducible first | exact HB.out | apply zaak | apply zaai | apply zaaj) | exact HB.out))) : w.heap.size ≤ zaat)); have n3_ := zaaq ((by rw [hg]; exact (below_size (by repeat (first | (with_reducible first | exact HB.out | apply zaak | apply zaai | apply zaaj) | exact HB.out))) : w.heap.size ≤ zaat)); clear HB; have HB := n0_; have zaas := n1_; have zacb := n2_; have zabd := n3_; clear n0_ n1_ n2_ n3_; clear hb hbox hg; have zaeo : w22.cell? ⟨zaat, 0, none⟩ = some (.int .i64 0) := (zaal zaas.out 0).trans rfl; have zaep : w22.cell? ⟨zaat, 1, none⟩ = some (.int .i64 0) := (zaal zaas.out 1).trans rfl; have zaeq : w22.cell? ⟨zaat, 2, none⟩ = some (.string (⟨#[]⟩ : ByteArray)) := (zaal zaas.out 2).trans rfl; have zaer : w22.cell? ⟨zaat, 3, none⟩ = some (.slice none 0 0) := (zaal zaas.out 3).trans rfl; have zaes := zaam zaas.out 0; have zaet := zaam zaas.out 1; have zaeu := zaam zaas.out 2; have zaev := zaam zaas.out 3))
        have n0_ : Aside0 (((((w22.setCell ⟨zaat, 0, none⟩ (.int .i64 ((rd_T38 l0 zaar).f0))).setCell ⟨zaat, 1, none⟩ (.int .i64 ((rd_T38 l0 zaar).f1))).setCell ⟨zaat, 2, none⟩ (.string ((rd_T38 l0 zaar).f2))).setCell ⟨zaat, 3, none⟩ (.slice A283_3 ((rd_T38 l0 zaar).f3).length c283_3)).heap[zaat]? = some (.cells #[.int .i64 ((rd_T38 l0 zaar).f0), .int .i64 ((rd_T38 l0 zaar).f1), .string ((rd_T38 l0 zaar).f2), .slice A283_3 ((rd_T38 l0 zaar).f3).length c283_3] 38 (0, 0))) := ⟨by (with_reducible repeat (first | refine zaae ?_ _ | refine zaag ?_ | refine zaaf ?_ _)); refine blk_put (cs := #[.int .i64 ((rd_T38 l0 zaar).f0), .int .i64 ((rd_T38 l0 zaar).f1), .string ((rd_T38 l0 zaar).f2), .slice none 0 0]) ?_ 3 _ rfl; (with_reducible repeat (first | refine zaae ?_ _ | refine zaag ?_ | refine zaaf ?_ _)); refine blk_put (cs := #[.int .i64 ((rd_T38 l0 zaar).f0), .int .i64 ((rd_T38 l0 zaar).f1), .string (⟨#[]⟩ : ByteArray), .slice none 0 0]) ?_ 2 _ rfl; (with_reducible repeat (first | refine zaae ?_ _ | refine zaag ?_ | refine zaaf ?_ _)); refine blk_put (cs := #[.int .i64 ((rd_T38 l0 zaar).f0), .int .i64 0, .string (⟨#[]⟩ : ByteArray), .slice none 0 0]) ?_ 1 _ rfl; (with_reducible repeat (first | refine zaae ?_ _ | refine zaag ?_ | refine zaaf ?_ _)); refine blk_put (cs := #[.int .i64 0, .int .i64 0, .string (⟨#[]⟩ : ByteArray), .slice none 0 0]) ?_ 0 _ rfl; (with_reducible repeat (first | refine zaae ?_ _ | refine zaag ?_ | refine zaaf ?_ _)); exact zaas.out⟩
        have n1_ : Aside0 (Below w.heap.size w ((((w22.setCell ⟨zaat, 0, none⟩ (.int .i64 ((rd_T38 l0 zaar).f0))).setCell ⟨zaat, 1, none⟩ (.int .i64 ((rd_T38 l0 zaar).f1))).setCell ⟨zaat, 2, none⟩ (.string ((rd_T38 l0 zaar).f2))).setCell ⟨zaat, 3, none⟩ (.slice A283_3 ((rd_T38 l0 zaar).f3).length c283_3))) := ⟨by repeat (first | (with_reducible first | exact HB.out | apply zaak | apply zaai | apply zaaj | refine zaah ?_ zabd.out) | exact HB.out)⟩
        (try clear zaas)
        (try clear HB)
        generalize ((((w22.setCell ⟨zaat, 0, none⟩ (.int .i64 ((rd_T38 l0 zaar).f0))).setCell ⟨zaat, 1, none⟩ (.int .i64 ((rd_T38 l0 zaar).f1))).setCell ⟨zaat, 2, none⟩ (.string ((rd_T38 l0 zaar).f2))).setCell ⟨zaat, 3, none⟩ (.slice A283_3 ((rd_T38 l0 zaar).f3).length c283_3)) = w24 at n0_ n1_ ⊢
        have zaas := n0_
        have HB := n1_
        clear n0_ n1_
        have n0_ := zaaq (zaag zaas.out)
        have n1_ := zaaq (zaaj HB.out)
        clear zaas
        clear HB
        have zaas := n0_
        have HB := n1_
        clear n0_ n1_
        refine start_ (n := 18) (S := fun w' => w'.cell? ⟨zaat, 0, none⟩ = some (.int .i64 ((rd_T38 l0 zaar).f0)) ∧ w'.cell? ⟨zaat, 1, none⟩ = some (.int .i64 ((rd_T38 l0 zaar).f1)) ∧ w'.cell? ⟨zaat, 2, none⟩ = some (.string ((rd_T38 l0 zaar).f2)) ∧ w'.cell? ⟨zaat, 3, none⟩ = some (.slice A283_3 ((rd_T38 l0 zaar).f3).length c283_3)) (ds := []) zasq0 (by kernel_rfl) rfl rfl ⟨(zaal zaas.out 0).trans rfl, (zaal zaas.out 1).trans rfl, (zaal zaas.out 2).trans rfl, (zaal zaas.out 3).trans rfl⟩ (fun hHeld => ?_); refine with_tabW parts_right.tab4 parts_right.bits4 (fun HT_ HW_ => ?_)
        generalize w24.drew = w25 at zaas HB hHeld ⊢
        refine tt 0 12 HT_ HW_ ?_
        refine one_ (i := 1) (N := some 13) zasq2 rfl rfl (one_of HT_.out (by kernel_rfl)) (by decide) (fun K hK => ?_)
        refine goes_ Tryz.func21 (by kernel_rfl) rfl #[.agg #[.int .i64 ((rd_T38 l0 zaar).f0), .int .i64 ((rd_T38 l0 zaar).f1), .string ((rd_T38 l0 zaar).f2), .slice A283_3 ((rd_T38 l0 zaar).f3).length c283_3]] (by rfl) rfl rfl (by (try simp only [zaan, zaao, zaap]); first | done | rfl) ?_
        with_reducible refine (parts_Check.calls k1 ((rd_T38 l0 zaar).f0) ((rd_T38 l0 zaar).f1) ((rd_T38 l0 zaar).f2) _ _ ((rd_T38 l0 zaar).f3) t285 _ ?side1 ?side2 A5.out).mono ?_
        (case side1 => repeat (first | exact (Kd.C_below HR283_3.out HB.out) | (with_reducible refine Kd.C_alloc ?_ _) | (with_reducible refine Kd.C_drewN ?_ _) | (with_reducible refine Kd.C_drew ?_)))
        (case side2 => exact HC283_3.out)
        rintro e w26 ⟨rfl, hb⟩
        refine ⟨_, rfl, ?_⟩
        have n0_ := zaaq (blk_below (g := zaat) (o := .cells #[.int .i64 ((rd_T38 l0 zaar).f0), .int .i64 ((rd_T38 l0 zaar).f1), .string ((rd_T38 l0 zaar).f2), .slice A283_3 ((rd_T38 l0 zaar).f3).length c283_3] 38 (0, 0)) (by (with_reducible repeat (first | refine zaae ?_ _ | refine zaag ?_ | refine zaaf ?_ _)); exact zaas.out) hb)
        have n1_ := zaaq (below_step (by repeat (first | (with_reducible first | exact HB.out | apply zaak | apply zaai | apply zaaj | refine zaah ?_ zabd.out) | exact HB.out)) hb)
        clear zaas
        clear HB
        have zaas := n0_
        have HB := n1_
        clear n0_ n1_
        (try clear hb)
        (try clear hb2)
        (try clear hk)
        (try clear hi)
        refine hK.out _ _ ⟨(zaal zaas.out 0).trans rfl, (zaal zaas.out 1).trans rfl, (zaal zaas.out 2).trans rfl, (zaal zaas.out 3).trans rfl⟩ (fun hHeld => ?_)
        clear hK K
        refine nt 13 ?_
        refine pt 2 14 HT_ ?_
        refine pt 3 15 HT_ ?_
        refine pt 4 16 HT_ ?_
        refine pt 5 17 HT_ ?_
        refine pt 6 18 HT_ ?_
        refine pure_ (i := 7) (N := some 19) (v := undef) (a' := ?_) zasq8 rfl rfl (any_of HT_.out (by kernel_rfl)) (fun _ _ _ h => h) (Or.inr ⟨by rfl, rfl⟩) ?_ ?_
        rotate_left
        ·simp only [Act.put, zaaa, zaab, zaac, i64_w, i32_w]
         rfl
        refine pure_ (i := 8) (N := some 20) (v := undef) (a' := ?_) zasq19 rfl rfl (any_of HT_.out (by kernel_rfl)) (fun _ _ _ h => h) (Or.inr ⟨by rfl, rfl⟩) ?_ ?_
        rotate_left
        ·simp only [Act.put, zaaa, zaab, zaac, i64_w, i32_w]
         rfl
        refine pure_ (i := 9) (N := some 21) (v := undef) (a' := ?_) zasq20 rfl rfl (any_of HT_.out (by kernel_rfl)) (fun _ _ _ h => h) (Or.inr ⟨by rfl, rfl⟩) ?_ ?_
        rotate_left
        ·simp only [Act.put, zaaa, zaab, zaac, i64_w, i32_w]
         rfl
        refine pure_ (i := 10) (N := some 22) (v := undef) (a' := ?_) zasq21 rfl rfl (any_of HT_.out (by kernel_rfl)) (fun _ _ _ h => h) (Or.inr ⟨by rfl, rfl⟩) ?_ ?_
        rotate_left
        ·simp only [Act.put, zaaa, zaab, zaac, i64_w, i32_w]
         rfl
        refine pure_ (i := 11) (N := some 23) (v := undef) (a' := ?_) zasq22 rfl rfl (any_of HT_.out (by kernel_rfl)) (fun _ _ _ h => h) (Or.inr ⟨by rfl, rfl⟩) ?_ ?_
        rotate_left
        ·simp only [Act.put, zaaa, zaab, zaac, i64_w, i32_w]
         rfl
        refine pure_ (i := 12) (N := some 24) (v := undef) (a' := ?_) zasq23 rfl rfl (any_of HT_.out (by kernel_rfl)) (fun _ _ _ h => h) (Or.inr ⟨by rfl, rfl⟩) ?_ ?_
        rotate_left
        ·simp only [Act.put, zaaa, zaab, zaac, i64_w, i32_w]
         rfl
        refine pure_ (i := 13) (N := some 25) (v := undef) (a' := ?_) zasq14 rfl rfl (any_of HT_.out (by kernel_rfl)) (fun _ _ _ h => h) (Or.inr ⟨by rfl, rfl⟩) ?_ ?_
        rotate_left
        ·simp only [Act.put, zaaa, zaab, zaac, i64_w, i32_w]
         rfl
        refine pure_ (i := 14) (N := some 26) (v := undef) (a' := ?_) zasq15 rfl rfl (any_of HT_.out (by kernel_rfl)) (fun _ _ _ h => h) (Or.inr ⟨by rfl, rfl⟩) ?_ ?_
        rotate_left
        ·simp only [Act.put, zaaa, zaab, zaac, i64_w, i32_w]
         rfl
        refine pure_ (i := 15) (N := some 27) (v := undef) (a' := ?_) zasq16 rfl rfl (any_of HT_.out (by kernel_rfl)) (fun _ _ _ h => h) (Or.inr ⟨by rfl, rfl⟩) ?_ ?_
        rotate_left
        ·simp only [Act.put, zaaa, zaab, zaac, i64_w, i32_w]
         rfl
        refine pt 16 28 HT_ ?_
        refine pt 17 29 HT_ ?_
        refine done_ (done_of HT_.out (by kernel_rfl)) ?_
        try go_wp2
        go_roundg k1
        case measure => have := HK1.out; omega
        case rel => exact ⟨(wrap64 (zaar + 1)), (by first | rfl | (simp; done) | (simp [*]; done)), H', ⟨by have := HK1.out; omega⟩, ⟨by repeat (first | (with_reducible first | exact HB.out | apply zaak | apply zaai | apply zaaj | refine zaah ?_ zabd.out) | exact HB.out)⟩⟩
      ·rw [if_neg c6] at H
       have c6b0 : (t285 == 0) = false := beq_eq_false_iff_ne.mpr c6
       have c6b1 : (t285 != 0) = true := bne_iff_ne.mpr c6
       obtain rfl := Option.some.inj H
       have p283 : 0 ≤ (zaar : Int) := of_decide_eq_true (by first | (with_reducible assumption) | assumption)
       have q283 : zaar < (l0.length : Int) := of_decide_eq_true (by first | (with_reducible assumption) | assumption)
       obtain ⟨ad283, A283_3, c283_3, e283, hx283_0, hx283_1, hx283_2, hx283_3, hl283_3, hi283_3⟩ := at_T38 HR0.out zaar p283 q283
       cases e283
       replace hx283_0 := (HB.out.cell (zaad w _ hx283_0)).trans hx283_0
       replace hx283_1 := (HB.out.cell (zaad w _ hx283_1)).trans hx283_1
       replace hx283_2 := (HB.out.cell (zaad w _ hx283_2)).trans hx283_2
       replace hx283_3 := (HB.out.cell (zaad w _ hx283_3)).trans hx283_3
       have HR283_3 := zaaq hi283_3
       have HC283_3 := zaaq hl283_3
       clear hi283_3 hl283_3
       replace p283 := eq_true p283
       replace q283 := eq_true q283
       try go_wp2_with (first | ((with_reducible refine gate_dst (N := 4) rfl ?_); refine box_event ?hg (N := 4) ?hd (cs := #[.int .i64 0, .int .i64 0, .string (⟨#[]⟩ : ByteArray), .slice none 0 0]) (t := 38) ?hr ?_; (case hd => rfl); (case hg => rfl); (case hr => first | (go_simp; done) | (go_simp; rfl)); intro zaat hg w27 hbox hb; have n0_ := zaaq (below_step (by repeat (first | (with_reducible first | exact HB.out | apply zaak | apply zaai | apply zaaj) | exact HB.out)) hb); have n1_ := zaaq (hbox); have n2_ := zaaq ((by rw [hg]; exact (below_size (by repeat (first | (with_reducible first | exact HB.out | apply zaak | apply zaai | apply zaaj) | exact HB.out))) : w.heap.size ≤ zaat)); have n3_ := zaaq ((by rw [hg]; exact (below_size (by repeat (first | (with_reducible first | exact HB.out | apply zaak | apply zaai | apply zaaj) | exact HB.out))) : w.heap.size ≤ zaat)); clear HB; have HB := n0_; have zaas := n1_; have zacb := n2_; have zabd := n3_; clear n0_ n1_ n2_ n3_; clear hb hbox hg; have zaew : w27.cell? ⟨zaat, 0, none⟩ = some (.int .i64 0) := (zaal zaas.out 0).trans rfl; have zaex : w27.cell? ⟨zaat, 1, none⟩ = some (.int .i64 0) := (zaal zaas.out 1).trans rfl; have zaey : w27.cell? ⟨zaat, 2, none⟩ = some (.string (⟨#[]⟩ : ByteArray)) := (zaal zaas.out 2).trans rfl; have zaez : w27.cell? ⟨zaat, 3, none⟩ = some (.slice none 0 0) := (zaal zaas.out 3).trans rfl; have zafa := zaam zaas.out 0; have zafb := zaam zaas.out 1; have zafc := zaam zaas.out 2; have zafd := zaam zaas.out 3))
       have n0_ : Aside0 (((((w27.setCell ⟨zaat, 0, none⟩ (.int .i64 ((rd_T38 l0 zaar).f0))).setCell ⟨zaat, 1, none⟩ (.int .i64 ((rd_T38 l0 zaar).f1))).setCell ⟨zaat, 2, none⟩ (.string ((rd_T38 l0 zaar).f2))).setCell ⟨zaat, 3, none⟩ (.slice A283_3 ((rd_T38 l0 zaar).f3).length c283_3)).heap[zaat]? = some (.cells #[.int .i64 ((rd_T38 l0 zaar).f0), .int .i64 ((rd_T38 l0 zaar).f1), .string ((rd_T38 l0 zaar).f2), .slice A283_3 ((rd_T38 l0 zaar).f3).length c283_3] 38 (0, 0))) := ⟨by (with_reducible repeat (first | refine zaae ?_ _ | refine zaag ?_ | refine zaaf ?_ _)); refine blk_put (cs := #[.int .i64 ((rd_T38 l0 zaar).f0), .int .i64 ((rd_T38 l0 zaar).f1), .string ((rd_T38 l0 zaar).f2), .slice none 0 0]) ?_ 3 _ rfl; (with_reducible repeat (first | refine zaae ?_ _ | refine zaag ?_ | refine zaaf ?_ _)); refine blk_put (cs := #[.int .i64 ((rd_T38 l0 zaar).f0), .int .i64 ((rd_T38 l0 zaar).f1), .string (⟨#[]⟩ : ByteArray), .slice none 0 0]) ?_ 2 _ rfl; (with_reducible repeat (first | refine zaae ?_ _ | refine zaag ?_ | refine zaaf ?_ _)); refine blk_put (cs := #[.int .i64 ((rd_T38 l0 zaar).f0), .int .i64 0, .string (⟨#[]⟩ : ByteArray), .slice none 0 0]) ?_ 1 _ rfl; (with_reducible repeat (first | refine zaae ?_ _ | refine zaag ?_ | refine zaaf ?_ _)); refine blk_put (cs := #[.int .i64 0, .int .i64 0, .string (⟨#[]⟩ : ByteArray), .slice none 0 0]) ?_ 0 _ rfl; (with_reducible repeat (first | refine zaae ?_ _ | refine zaag ?_ | refine zaaf ?_ _)); exact zaas.out⟩
       have n1_ : Aside0 (Below w.heap.size w ((((w27.setCell ⟨zaat, 0, none⟩ (.int .i64 ((rd_T38 l0 zaar).f0))).setCell ⟨zaat, 1, none⟩ (.int .i64 ((rd_T38 l0 zaar).f1))).setCell ⟨zaat, 2, none⟩ (.string ((rd_T38 l0 zaar).f2))).setCell ⟨zaat, 3, none⟩ (.slice A283_3 ((rd_T38 l0 zaar).f3).length c283_3))) := ⟨by repeat (first | (with_reducible first | exact HB.out | apply zaak | apply zaai | apply zaaj | refine zaah ?_ zabd.out) | exact HB.out)⟩
       (try clear zaas)
       (try clear HB)
       generalize ((((w27.setCell ⟨zaat, 0, none⟩ (.int .i64 ((rd_T38 l0 zaar).f0))).setCell ⟨zaat, 1, none⟩ (.int .i64 ((rd_T38 l0 zaar).f1))).setCell ⟨zaat, 2, none⟩ (.string ((rd_T38 l0 zaar).f2))).setCell ⟨zaat, 3, none⟩ (.slice A283_3 ((rd_T38 l0 zaar).f3).length c283_3)) = w29 at n0_ n1_ ⊢
       have zaas := n0_
       have HB := n1_
       clear n0_ n1_
       have n0_ := zaaq (zaag zaas.out)
       have n1_ := zaaq (zaaj HB.out)
       clear zaas
       clear HB
       have zaas := n0_
       have HB := n1_
       clear n0_ n1_
       refine start_ (n := 18) (S := fun w' => w'.cell? ⟨zaat, 0, none⟩ = some (.int .i64 ((rd_T38 l0 zaar).f0)) ∧ w'.cell? ⟨zaat, 1, none⟩ = some (.int .i64 ((rd_T38 l0 zaar).f1)) ∧ w'.cell? ⟨zaat, 2, none⟩ = some (.string ((rd_T38 l0 zaar).f2)) ∧ w'.cell? ⟨zaat, 3, none⟩ = some (.slice A283_3 ((rd_T38 l0 zaar).f3).length c283_3)) (ds := []) zasq0 (by kernel_rfl) rfl rfl ⟨(zaal zaas.out 0).trans rfl, (zaal zaas.out 1).trans rfl, (zaal zaas.out 2).trans rfl, (zaal zaas.out 3).trans rfl⟩ (fun hHeld => ?_); refine with_tabW parts_right.tab4 parts_right.bits4 (fun HT_ HW_ => ?_)
       generalize w29.drew = w30 at zaas HB hHeld ⊢
       refine tt 0 12 HT_ HW_ ?_
       refine one_ (i := 1) (N := some 13) zasq2 rfl rfl (one_of HT_.out (by kernel_rfl)) (by decide) (fun K hK => ?_)
       refine goes_ Tryz.func21 (by kernel_rfl) rfl #[.agg #[.int .i64 ((rd_T38 l0 zaar).f0), .int .i64 ((rd_T38 l0 zaar).f1), .string ((rd_T38 l0 zaar).f2), .slice A283_3 ((rd_T38 l0 zaar).f3).length c283_3]] (by rfl) rfl rfl (by (try simp only [zaan, zaao, zaap]); first | done | rfl) ?_
       with_reducible refine (parts_Check.calls k1 ((rd_T38 l0 zaar).f0) ((rd_T38 l0 zaar).f1) ((rd_T38 l0 zaar).f2) _ _ ((rd_T38 l0 zaar).f3) t285 _ ?side1 ?side2 A5.out).mono ?_
       (case side1 => repeat (first | exact (Kd.C_below HR283_3.out HB.out) | (with_reducible refine Kd.C_alloc ?_ _) | (with_reducible refine Kd.C_drewN ?_ _) | (with_reducible refine Kd.C_drew ?_)))
       (case side2 => exact HC283_3.out)
       rintro e w31 ⟨rfl, hb⟩
       refine ⟨_, rfl, ?_⟩
       have n0_ := zaaq (blk_below (g := zaat) (o := .cells #[.int .i64 ((rd_T38 l0 zaar).f0), .int .i64 ((rd_T38 l0 zaar).f1), .string ((rd_T38 l0 zaar).f2), .slice A283_3 ((rd_T38 l0 zaar).f3).length c283_3] 38 (0, 0)) (by (with_reducible repeat (first | refine zaae ?_ _ | refine zaag ?_ | refine zaaf ?_ _)); exact zaas.out) hb)
       have n1_ := zaaq (below_step (by repeat (first | (with_reducible first | exact HB.out | apply zaak | apply zaai | apply zaaj | refine zaah ?_ zabd.out) | exact HB.out)) hb)
       clear zaas
       clear HB
       have zaas := n0_
       have HB := n1_
       clear n0_ n1_
       (try clear hb)
       (try clear hb2)
       (try clear hk)
       (try clear hi)
       refine hK.out _ _ ⟨(zaal zaas.out 0).trans rfl, (zaal zaas.out 1).trans rfl, (zaal zaas.out 2).trans rfl, (zaal zaas.out 3).trans rfl⟩ (fun hHeld => ?_)
       clear hK K
       refine nt 13 ?_
       refine pt 2 14 HT_ ?_
       refine pt 3 15 HT_ ?_
       refine pure_ (i := 4) (N := some 16) (v := undef) (a' := ?_) zasq5 rfl rfl (any_of HT_.out (by kernel_rfl)) (fun _ _ _ h => h) (Or.inr ⟨by rfl, rfl⟩) ?_ ?_
       rotate_left
       ·simp only [Act.put, zaaa, zaab, zaac, i64_w, i32_w]
        rfl
       refine pure_ (i := 5) (N := some 17) (v := undef) (a' := ?_) zasq6 rfl rfl (any_of HT_.out (by kernel_rfl)) (fun _ _ _ h => h) (Or.inr ⟨by rfl, rfl⟩) ?_ ?_
       rotate_left
       ·simp only [Act.put, zaaa, zaab, zaac, i64_w, i32_w]
        rfl
       refine pure_ (i := 6) (N := some 18) (v := undef) (a' := ?_) zasq7 rfl rfl (any_of HT_.out (by kernel_rfl)) (fun _ _ _ h => h) (Or.inr ⟨by rfl, rfl⟩) ?_ ?_
       rotate_left
       ·simp only [Act.put, zaaa, zaab, zaac, i64_w, i32_w]
        rfl
       refine pure_ (i := 7) (N := some 19) (v := undef) (a' := ?_) zasq8 rfl rfl (any_of HT_.out (by kernel_rfl)) (fun _ _ _ h => h) (Or.inr ⟨by rfl, rfl⟩) ?_ ?_
       rotate_left
       ·simp only [Act.put, zaaa, zaab, zaac, i64_w, i32_w]
        rfl
       refine pure_ (i := 8) (N := some 20) (v := undef) (a' := ?_) zasq19 rfl rfl (any_of HT_.out (by kernel_rfl)) (fun _ _ _ h => h) (Or.inr ⟨by rfl, rfl⟩) ?_ ?_
       rotate_left
       ·simp only [Act.put, zaaa, zaab, zaac, i64_w, i32_w]
        rfl
       refine pure_ (i := 9) (N := some 21) (v := undef) (a' := ?_) zasq20 rfl rfl (any_of HT_.out (by kernel_rfl)) (fun _ _ _ h => h) (Or.inr ⟨by rfl, rfl⟩) ?_ ?_
       rotate_left
       ·simp only [Act.put, zaaa, zaab, zaac, i64_w, i32_w]
        rfl
       refine pure_ (i := 10) (N := some 22) (v := undef) (a' := ?_) zasq21 rfl rfl (any_of HT_.out (by kernel_rfl)) (fun _ _ _ h => h) (Or.inr ⟨by rfl, rfl⟩) ?_ ?_
       rotate_left
       ·simp only [Act.put, zaaa, zaab, zaac, i64_w, i32_w]
        rfl
       refine pure_ (i := 11) (N := some 23) (v := undef) (a' := ?_) zasq22 rfl rfl (any_of HT_.out (by kernel_rfl)) (fun _ _ _ h => h) (Or.inr ⟨by rfl, rfl⟩) ?_ ?_
       rotate_left
       ·simp only [Act.put, zaaa, zaab, zaac, i64_w, i32_w]
        rfl
       refine pure_ (i := 12) (N := some 24) (v := undef) (a' := ?_) zasq23 rfl rfl (any_of HT_.out (by kernel_rfl)) (fun _ _ _ h => h) (Or.inr ⟨by rfl, rfl⟩) ?_ ?_
       rotate_left
       ·simp only [Act.put, zaaa, zaab, zaac, i64_w, i32_w]
        rfl
       refine pure_ (i := 13) (N := some 25) (v := undef) (a' := ?_) zasq14 rfl rfl (any_of HT_.out (by kernel_rfl)) (fun _ _ _ h => h) (Or.inr ⟨by rfl, rfl⟩) ?_ ?_
       rotate_left
       ·simp only [Act.put, zaaa, zaab, zaac, i64_w, i32_w]
        rfl
       refine pure_ (i := 14) (N := some 26) (v := undef) (a' := ?_) zasq15 rfl rfl (any_of HT_.out (by kernel_rfl)) (fun _ _ _ h => h) (Or.inr ⟨by rfl, rfl⟩) ?_ ?_
       rotate_left
       ·simp only [Act.put, zaaa, zaab, zaac, i64_w, i32_w]
        rfl
       refine pure_ (i := 15) (N := some 27) (v := undef) (a' := ?_) zasq16 rfl rfl (any_of HT_.out (by kernel_rfl)) (fun _ _ _ h => h) (Or.inr ⟨by rfl, rfl⟩) ?_ ?_
       rotate_left
       ·simp only [Act.put, zaaa, zaab, zaac, i64_w, i32_w]
        rfl
       refine pure_ (i := 16) (N := some 28) (v := undef) (a' := ?_) zasq17 rfl rfl (any_of HT_.out (by kernel_rfl)) (fun _ _ _ h => h) (Or.inr ⟨by rfl, rfl⟩) ?_ ?_
       rotate_left
       ·simp only [Act.put, zaaa, zaab, zaac, i64_w, i32_w]
        rfl
       refine pt 17 29 HT_ ?_
       refine done_ (done_of HT_.out (by kernel_rfl)) ?_
       try go_wp2
       go_ret
       exact ⟨by first | rfl | (simp [errW_none, errW_some] <;> rfl) | (simp [*, errW_none, errW_some] <;> rfl), by repeat (first | (with_reducible first | exact HB.out | apply zaak | apply zaai | apply zaaj | refine zaah ?_ zabd.out) | exact HB.out)⟩
     ·rw [if_neg c4] at H
      exact absurd H (by simp)
    ·rw [if_neg c3] at H
     exact absurd H (by simp)
   ·rw [if_neg c2] at H
    have c2b0 : decide (zaar < (l0.length : Int)) = false := decide_eq_false c2
    clear c2
    obtain rfl := Option.some.inj H
    go_wp2
    go_ret
    exact ⟨by first | rfl | (simp [errW_none, errW_some] <;> rfl) | (simp [*, errW_none, errW_some] <;> rfl), by repeat (first | (with_reducible first | exact HB.out | apply zaak | apply zaai | apply zaaj) | exact HB.out)⟩

-- given: api_Piece
/-! ### parts_own: function 22 -/
def parts_own.l0 : Nat → List (S38) → List (S38) → Int → Int → Option ((List (S38)))
 | 0, _, _, _, _ => none
 | k + 1, x3, x6, x7, x8 => if x8 < x7 then (if 0 ≤ x8 then (if x8 < (x6.length : Int) then ((api_Piece.f ((rd_T38 x6 x8).f3)).bind fun t289 => (if x3.length < 2513169434916 then (parts_own.l0 k (x3 ++ [(⟨(rd_T38 x6 x8).f0, (rd_T38 x6 x8).f1, (rd_T38 x6 x8).f2, t289⟩ : S38)]) x6 x7 (wrap64 (x8 + 1))) else (none))) else (none)) else (none)) else (some x3)
def parts_own.f (k : Nat) (l0 : List (S38)) : Option ((List (S38))) := parts_own.l0 k ([] : List (S38)) l0 (l0.length : Int) 0
theorem parts_own.mono_l : ∀ k, (∀ y0 y1 y2 y3, LeO (parts_own.l0 k y0 y1 y2 y3) (parts_own.l0 (k + 1) y0 y1 y2 y3))
 | 0 => fun _ _ _ _ r h => by simp [parts_own.l0] at h
 | k + 1 => by
  have ih0 := parts_own.mono_l k
  ·intro y0 y1 y2 y3
   unfold parts_own.l0
   repeat' first
   | (with_reducible exact ih0 _ _ _ _)
   | (with_reducible exact LeO.refl _)
   | (with_reducible exact LeO.none _)
   | (with_reducible refine LeO.ite ?_ ?_)
   | (with_reducible refine LeO.bind ?_ (fun _ => ?_))
   | exact ih0 _ _ _ _
   | exact LeO.none _
   | refine LeO.ite ?_ ?_
   | refine LeO.bind ?_ (fun _ => ?_)
theorem parts_own.mono : ∀ a0 k, LeO (parts_own.f k a0) (parts_own.f (k + 1) a0) := by
 intro a0 k
 have ih0 := parts_own.mono_l k
 unfold parts_own.f
 repeat' first
   | (with_reducible exact ih0 _ _ _ _)
   | (with_reducible exact LeO.refl _)
   | (with_reducible exact LeO.none _)
   | (with_reducible refine LeO.ite ?_ ?_)
   | (with_reducible refine LeO.bind ?_ (fun _ => ?_))
   | exact ih0 _ _ _ _
   | exact LeO.none _
   | refine LeO.ite ?_ ?_
   | refine LeO.bind ?_ (fun _ => ?_)
set_option maxHeartbeats 8000000 in
set_option maxRecDepth 100000 in
theorem parts_own.calls (k : Nat) (A0 : Option Addr) (c0 : Nat) (l0 : List (S38)) (r : List (S38)) (w : World) (hr0 : Kd.C k38 w A0 l0.length l0) (hc0 : l0.length ≤ c0) (h : parts_own.f k l0 = some r) :
  Calls Tryz.prog 22 #[.slice A0 l0.length c0] w fun e w' => ∃ v0_ : Value, e = .returned (v0_) ∧ Kd.S k38 38 w' w.heap.size (fun _ => True) v0_ r ∧ Below w.heap.size w w' := by
 have hu38 := Tryz.underlying38
 have HR0 := zaaq hr0
 have HC0 := zaaq hc0
 clear hr0 hc0
 have HB := zaaq (Below.refl w.heap.size w)
 have H : (parts_own.l0 k ([] : List (S38)) l0 (l0.length : Int) 0) = some r := h
 clear h
 have H' := zaaq H
 clear H
 go_enter Tryz.func22, Tryz.ntmps22
 go_wp2
 go_loopg [3, 8] k (fun kq v3 v8 w' => ∃ (zabg : List (S38)) (zaaw : Int), v8 = .int .i64 zaaw ∧ Aside0 (parts_own.l0 kq zabg l0 (l0.length : Int) zaaw = some r) ∧ Aside0 (kq ≤ k) ∧ Aside0 (Kd.S k38 38 w' w.heap.size (fun _ => True) v3 zabg) ∧ Aside0 (Below w.heap.size w w'))
 case atStart => exact ⟨(([] : List (S38))), (0), (by first | rfl | (simp; done) | (simp [*]; done)), H', ⟨Nat.le_refl _⟩, ⟨by first | exact Kd.S_nil _ _ _ _ _ | exact Kd.N_nil _ _ _ _ _ | exact Kd.V_nil _ _ _ _ _ | exact Kd.Q_nil _ _ _ _ _ | exact Kd.R_nil _ _ _ _ _⟩, ⟨by repeat (first | (with_reducible first | exact HB.out | apply zaak | apply zaai | apply zaaj) | exact HB.out)⟩⟩
 case round =>
  clear H'
  obtain ⟨zabg, zaaw, rfl, HA, HK1, HO_3, HB⟩ := hrel
  cases gk with
  | zero => exact absurd HA.out (by simp [parts_own.l0])
  | succ k1 =>
   have H := HA.out
   clear HA
   simp only [parts_own.l0] at H
   by_cases c2 : zaaw < (l0.length : Int)
   ·rw [if_pos c2] at H
    have c2b0 : decide (zaaw < (l0.length : Int)) = true := decide_eq_true c2
    clear c2
    by_cases c3 : 0 ≤ zaaw
    ·rw [if_pos c3] at H
     have c3b0 : decide (0 ≤ zaaw) = true := decide_eq_true c3
     clear c3
     by_cases c4 : zaaw < (l0.length : Int)
     ·rw [if_pos c4] at H
      have c4b0 : decide (zaaw < (l0.length : Int)) = true := decide_eq_true c4
      clear c4
      replace H := Option.bind_eq_some_iff.mp H
      obtain ⟨t289, A50, H⟩ := H
      replace H : (if zabg.length < 2513169434916 then (parts_own.l0 k1 (zabg ++ [(⟨(rd_T38 l0 zaaw).f0, (rd_T38 l0 zaaw).f1, (rd_T38 l0 zaaw).f2, t289⟩ : S38)]) l0 (l0.length : Int) (wrap64 (zaaw + 1))) else (none)) = some r := H
      have A5 := zaaq A50
      clear A50
      by_cases c6 : zabg.length < 2513169434916
      ·rw [if_pos c6] at H
       have LMc6 := zaaq c6
       clear c6
       obtain ⟨y292, hy292⟩ : ∃ y_ : List (S38), y_ = (zabg ++ [(⟨(rd_T38 l0 zaaw).f0, (rd_T38 l0 zaaw).f1, (rd_T38 l0 zaaw).f2, t289⟩ : S38)]) := ⟨_, rfl⟩
       replace H : (parts_own.l0 k1 y292 l0 (l0.length : Int) (wrap64 (zaaw + 1))) = some r := by first | (rw [hy292]; with_reducible exact H) | (have H2_ := (Option.bind_some _ _).symm.trans H; rw [hy292]; with_reducible exact H2_) | (have H2_ := (Option.bind_some _ _).symm.trans H; with_reducible exact H2_) | with_reducible exact H | (rw [hy292]; exact H) | exact H
       have Ny292 := zaaq hy292
       clear hy292
       have H' := zaaq H
       clear H
       have p287 : 0 ≤ (zaaw : Int) := of_decide_eq_true (by first | (with_reducible assumption) | assumption)
       have q287 : zaaw < (l0.length : Int) := of_decide_eq_true (by first | (with_reducible assumption) | assumption)
       obtain ⟨ad287, A287_3, c287_3, e287, hx287_0, hx287_1, hx287_2, hx287_3, hl287_3, hi287_3⟩ := at_T38 HR0.out zaaw p287 q287
       cases e287
       replace hx287_0 := (HB.out.cell (zaad w _ hx287_0)).trans hx287_0
       replace hx287_1 := (HB.out.cell (zaad w _ hx287_1)).trans hx287_1
       replace hx287_2 := (HB.out.cell (zaad w _ hx287_2)).trans hx287_2
       replace hx287_3 := (HB.out.cell (zaad w _ hx287_3)).trans hx287_3
       have HR287_3 := zaaq hi287_3
       have HC287_3 := zaaq hl287_3
       clear hi287_3 hl287_3
       replace p287 := eq_true p287
       replace q287 := eq_true q287
       go_wp2_with (first | ((with_reducible refine gate_dst (N := 5) rfl ?_); refine box_event ?hg (N := 5) ?hd (cs := #[.int .i64 0, .int .i64 0, .string (⟨#[]⟩ : ByteArray), .slice none 0 0]) (t := 38) ?hr ?_; (case hd => rfl); (case hg => rfl); (case hr => first | (go_simp; done) | (go_simp; rfl)); intro zaba hg w7 hbox hb; have n0_ := zaaq (Kd.S_below (Kd.S_elderB (by (with_reducible repeat (first | apply Kd.S_alloc | apply Kd.S_drewN | apply Kd.S_drew)); exact HO_3.out) zaba (Nat.le_of_eq hg.symm)) hb); have n1_ := zaaq (below_step (by repeat (first | (with_reducible first | exact HB.out | apply zaak | apply zaai | apply zaaj) | exact HB.out)) hb); have n2_ := zaaq (hbox); have n3_ := zaaq ((by rw [hg]; exact (below_size (by repeat (first | (with_reducible first | exact HB.out | apply zaak | apply zaai | apply zaaj) | exact HB.out))) : w.heap.size ≤ zaba)); have n4_ := zaaq ((by rw [hg]; exact (below_size (by repeat (first | (with_reducible first | exact HB.out | apply zaak | apply zaai | apply zaaj) | exact HB.out))) : w.heap.size ≤ zaba)); clear HO_3; clear HB; have HO_3 := n0_; have HB := n1_; have zaaz := n2_; have zafn := n3_; have zabh := n4_; clear n0_ n1_ n2_ n3_ n4_; clear hb hbox hg; have zacc : w7.cell? ⟨zaba, 0, none⟩ = some (.int .i64 0) := (zaal zaaz.out 0).trans rfl; have zacd : w7.cell? ⟨zaba, 1, none⟩ = some (.int .i64 0) := (zaal zaaz.out 1).trans rfl; have zace : w7.cell? ⟨zaba, 2, none⟩ = some (.string (⟨#[]⟩ : ByteArray)) := (zaal zaaz.out 2).trans rfl; have zacf : w7.cell? ⟨zaba, 3, none⟩ = some (.slice none 0 0) := (zaal zaaz.out 3).trans rfl; have zacg := zaam zaaz.out 0; have zach := zaam zaaz.out 1; have zaci := zaam zaaz.out 2; have zacj := zaam zaaz.out 3) | ((with_reducible refine gate_callee (f := 50) rfl ?_); refine goesL_ (some 14) rfl rfl Tryz.func50 (by kernel_rfl) rfl #[.slice A287_3 ((rd_T38 l0 zaaw).f3).length c287_3] rfl (by (try simp only [zaan, zaao, zaap]); first | done | rfl) ?_; (with_reducible refine (api_Piece.calls _ _ ((rd_T38 l0 zaaw).f3) t289 _ ?side1 ?side2 A5.out).mono ?_); (case side1 => exact Kd.C_below HR287_3.out (by repeat (first | (with_reducible first | exact HB.out | apply zaak | apply zaai | apply zaaj | refine zaah ?_ zabh.out) | exact HB.out))); (case side2 => exact HC287_3.out); rintro e w9 ⟨v290, rfl, ho0, hb⟩; refine ⟨_, rfl, ?_⟩; have n0_ := zaaq (Kd.S_elder' (by (with_reducible repeat (first | apply Kd.S_alloc | apply Kd.S_drewN | apply Kd.S_drew)); exact (Kd.S_mono (Kd.S_far (p := ⟨zaba, 3, none⟩) (Kd.S_far (p := ⟨zaba, 2, none⟩) (Kd.S_far (p := ⟨zaba, 1, none⟩) (Kd.S_far (p := ⟨zaba, 0, none⟩) (Kd.S_mono HO_3.out (fun k_ hk => (⟨hk, hk.2⟩ : _ ∧ k_ ≠ zaba))) (fun _ hk => hk.2) (.int .i64 ((rd_T38 l0 zaaw).f0))) (fun _ hk => hk.2) (.int .i64 ((rd_T38 l0 zaaw).f1))) (fun _ hk => hk.2) (.string ((rd_T38 l0 zaaw).f2))) (fun _ hk => hk.2) (.slice A287_3 ((rd_T38 l0 zaaw).f3).length c287_3)) (fun _ h_ => h_.1))) (Kd.R_base ho0) hb); have n1_ := zaaq (Kd.R_lower ho0 (below_size (by repeat (first | (with_reducible first | exact HB.out | apply zaak | apply zaai | apply zaaj | refine zaah ?_ zabh.out) | exact HB.out)))); have n2_ := zaaq (blk_below (g := zaba) (o := .cells #[.int .i64 ((rd_T38 l0 zaaw).f0), .int .i64 ((rd_T38 l0 zaaw).f1), .string ((rd_T38 l0 zaaw).f2), .slice A287_3 ((rd_T38 l0 zaaw).f3).length c287_3] 38 (0, 0)) (by (with_reducible repeat (first | refine zaae ?_ _ | refine zaag ?_ | refine zaaf ?_ _)); refine blk_put (cs := #[.int .i64 ((rd_T38 l0 zaaw).f0), .int .i64 ((rd_T38 l0 zaaw).f1), .string ((rd_T38 l0 zaaw).f2), .slice none 0 0]) ?_ 3 _ rfl; (with_reducible repeat (first | refine zaae ?_ _ | refine zaag ?_ | refine zaaf ?_ _)); refine blk_put (cs := #[.int .i64 ((rd_T38 l0 zaaw).f0), .int .i64 ((rd_T38 l0 zaaw).f1), .string (⟨#[]⟩ : ByteArray), .slice none 0 0]) ?_ 2 _ rfl; (with_reducible repeat (first | refine zaae ?_ _ | refine zaag ?_ | refine zaaf ?_ _)); refine blk_put (cs := #[.int .i64 ((rd_T38 l0 zaaw).f0), .int .i64 0, .string (⟨#[]⟩ : ByteArray), .slice none 0 0]) ?_ 1 _ rfl; (with_reducible repeat (first | refine zaae ?_ _ | refine zaag ?_ | refine zaaf ?_ _)); refine blk_put (cs := #[.int .i64 0, .int .i64 0, .string (⟨#[]⟩ : ByteArray), .slice none 0 0]) ?_ 0 _ rfl; (with_reducible repeat (first | refine zaae ?_ _ | refine zaag ?_ | refine zaaf ?_ _)); exact zaaz.out) hb); have n3_ := zaaq (below_step (by repeat (first | (with_reducible first | exact HB.out | apply zaak | apply zaai | apply zaaj | refine zaah ?_ zabh.out) | exact HB.out)) hb); clear HO_3; clear zaaz; clear HB; have HO_3 := n0_; have HO291 := n1_; have zaaz := n2_; have HB := n3_; clear n0_ n1_ n2_ n3_; (try clear hb); (try clear hk); (try clear hi); (try clear ho0); obtain ⟨Ao10, co10, eo10⟩ := Kd.R_slice HO291.out; subst eo10; have zafe : w9.cell? ⟨zaba, 0, none⟩ = some (.int .i64 ((rd_T38 l0 zaaw).f0)) := (zaal zaaz.out 0).trans rfl; have zaff : w9.cell? ⟨zaba, 1, none⟩ = some (.int .i64 ((rd_T38 l0 zaaw).f1)) := (zaal zaaz.out 1).trans rfl; have zafg : w9.cell? ⟨zaba, 2, none⟩ = some (.string ((rd_T38 l0 zaaw).f2)) := (zaal zaaz.out 2).trans rfl; have zafh : w9.cell? ⟨zaba, 3, none⟩ = some (.slice A287_3 ((rd_T38 l0 zaaw).f3).length c287_3) := (zaal zaaz.out 3).trans rfl; have zafi := zaam zaaz.out 0; have zafj := zaam zaaz.out 1; have zafk := zaam zaaz.out 2; have zafl := zaam zaaz.out 3) | ((with_reducible refine gate_store (t := 31) (p := 15) rfl ?_); refine store_event (t := 31) (p := 15) (v := ?vo_w12) (w1 := (w9.setCell ⟨zaba, 3, none⟩ (.slice Ao10 t289.length co10))) ?hg ?ho ?hn ?hr ?_; (case ho => rfl); (case hg => rfl); (case hn => rfl); (case hr => first | (go_simp; done) | (go_simp; rfl)); intro w12 hw; have n0_ : Aside0 (Kd.S k38 38 w12 w.heap.size (fun k_ => some k_ ≠ (.slice Ao10 t289.length co10 : Value).ownBlock ∧ k_ ≠ zaba) u3 zabg) := ⟨(by rw [hw]; exact (by (with_reducible repeat (first | apply Kd.S_alloc | apply Kd.S_drewN | apply Kd.S_drew)); exact Kd.S_mono (Kd.S_far (p := ⟨zaba, 3, none⟩) (Kd.S_mono HO_3.out (fun k_ hk => (⟨hk, hk.1.2⟩ : _ ∧ k_ ≠ zaba))) (fun _ hk => hk.2) (.slice Ao10 t289.length co10)) (fun _ hk => ⟨hk.1.2, hk.1.1.2⟩)))⟩; have n1_ : Aside0 (Kd.R k65 65 w12 w.heap.size (fun _ => True) (.slice Ao10 t289.length co10) t289) := ⟨(by rw [hw]; exact (by (with_reducible repeat (first | apply Kd.R_alloc | apply Kd.R_drewN | apply Kd.R_drew)); exact Kd.R_mono (Kd.R_far (p := ⟨zaba, 3, none⟩) (Kd.R_types HO291.out zaaz.out (by decide)) (fun _ hk => hk.2) (.slice Ao10 t289.length co10)) (fun _ hk => trivial)))⟩; have n2_ : Aside0 (w12.heap[zaba]? = some (.cells #[.int .i64 ((rd_T38 l0 zaaw).f0), .int .i64 ((rd_T38 l0 zaaw).f1), .string ((rd_T38 l0 zaaw).f2), .slice Ao10 t289.length co10] 38 (0, 0))) := ⟨(by rw [hw]; exact (by (with_reducible repeat (first | refine zaae ?_ _ | refine zaag ?_ | refine zaaf ?_ _)); refine blk_put (cs := #[.int .i64 ((rd_T38 l0 zaaw).f0), .int .i64 ((rd_T38 l0 zaaw).f1), .string ((rd_T38 l0 zaaw).f2), .slice A287_3 ((rd_T38 l0 zaaw).f3).length c287_3]) ?_ 3 _ rfl; (with_reducible repeat (first | refine zaae ?_ _ | refine zaag ?_ | refine zaaf ?_ _)); exact zaaz.out))⟩; have n3_ : Aside0 (Below w.heap.size w w12) := ⟨(by rw [hw]; exact (by repeat (first | (with_reducible first | exact HB.out | apply zaak | apply zaai | apply zaaj | refine zaah ?_ zabh.out) | exact HB.out)))⟩; clear hw; clear HO_3; clear HO291; clear zaaz; clear HB; have HO_3 := n0_; have HO291 := n1_; have zaaz := n2_; have HB := n3_; clear n0_ n1_ n2_ n3_; have zabi : w12.cell? ⟨zaba, 0, none⟩ = some (.int .i64 ((rd_T38 l0 zaaw).f0)) := (zaal zaaz.out 0).trans rfl; have zabj : w12.cell? ⟨zaba, 1, none⟩ = some (.int .i64 ((rd_T38 l0 zaaw).f1)) := (zaal zaaz.out 1).trans rfl; have zabn : w12.cell? ⟨zaba, 2, none⟩ = some (.string ((rd_T38 l0 zaaw).f2)) := (zaal zaaz.out 2).trans rfl; have zabo : w12.cell? ⟨zaba, 3, none⟩ = some (.slice Ao10 t289.length co10) := (zaal zaaz.out 3).trans rfl; have zabk := zaam zaaz.out 0; have zabl := zaam zaaz.out 1; have zabp := zaam zaaz.out 2; have zabq := zaam zaaz.out 3) | ((with_reducible refine gate_builtin (b := .append) (xs := #[.tmp 16, .tmp 18]) rfl ?_); at_builtin; refine Kd.S_append k38 (w0 := w) w.heap.size rfl (.tmp 16) (.tmp 18) 30 38 (.agg #[(.int .i64 0), (.int .i64 0), (.string ⟨#[]⟩), (.slice none 0 0)]) 56 rfl Tryz.underlying30 info38 rfl (by decide) (by omega) u3 zabg (⟨(rd_T38 l0 zaaw).f0, (rd_T38 l0 zaaw).f1, (rd_T38 l0 zaaw).f2, t289⟩ : S38) [.int .i64 ((rd_T38 l0 zaaw).f0), .int .i64 ((rd_T38 l0 zaaw).f1), .string ((rd_T38 l0 zaaw).f2), .slice Ao10 t289.length co10] (fun k_ => k_ ≠ zaba) (fun k_ => some k_ = (.slice Ao10 t289.length co10 : Value).ownBlock) rfl rfl ?aP (fun k_ hk_ => ((Kd.R_mono (ok' := fun k_ => ((fun k_ => k_ ≠ zaba)) k_ ∧ some k_ ≠ (u3 : Value).ownBlock) (Kd.R_types (Kd.R_apart' (HO291.out) (Kd.S_typed HO_3.out) (by decide)) zaaz.out (by decide)) (fun k_ hk => ⟨hk.2, hk.1.2⟩))).1 k_ hk_.symm) ?aF ?aO ?aB ?aS ?aL ?_; (case aP => exact k38_mkM _ _ _ (⟨(rd_T38 l0 zaaw).f0, (rd_T38 l0 zaaw).f1, (rd_T38 l0 zaaw).f2, t289⟩ : S38) (Kd.R_mono (Kd.R_tight rfl (Kd.R_mono (ok' := fun k_ => ((fun k_ => k_ ≠ zaba)) k_ ∧ some k_ ≠ (u3 : Value).ownBlock) (Kd.R_types (Kd.R_apart' (HO291.out) (Kd.S_typed HO_3.out) (by decide)) zaaz.out (by decide)) (fun k_ hk => ⟨hk.2, hk.1.2⟩))) (fun _ h_ => h_))); (case aB => exact (by repeat (first | (with_reducible first | exact HB.out | apply zaak | apply zaai | apply zaaj | refine zaah ?_ zabh.out) | exact HB.out))); (case aF => exact (fun k_ hk => Kd.freshB (g := zaba) (o := .cells #[.int .i64 ((rd_T38 l0 zaaw).f0), .int .i64 ((rd_T38 l0 zaaw).f1), .string ((rd_T38 l0 zaaw).f2), .slice Ao10 t289.length co10] 38 (0, 0)) (by (with_reducible repeat (first | refine zaae ?_ _ | refine zaag ?_ | refine zaaf ?_ _)); exact zaaz.out) k_ hk)); (case aO => exact (by (with_reducible repeat (first | apply Kd.S_alloc | apply Kd.S_drewN | apply Kd.S_drew)); exact Kd.S_mono HO_3.out (fun k_ hk => ⟨hk.2, fun e_ => hk.1 e_⟩))); (case aS => exact (below_size (by repeat (first | (with_reducible first | exact HB.out | apply zaak | apply zaai | apply zaaj | refine zaah ?_ zabh.out) | exact HB.out)))); (case aL => have := LMc6.out; omega); intro v293 w14 ho hb hg hat; rw [← Ny292.out] at ho; have n0_ := zaaq (blk_grown (g := zaba) (o := .cells #[.int .i64 ((rd_T38 l0 zaaw).f0), .int .i64 ((rd_T38 l0 zaaw).f1), .string ((rd_T38 l0 zaaw).f2), .slice Ao10 t289.length co10] 38 (0, 0)) (by (with_reducible repeat (first | refine zaae ?_ _ | refine zaag ?_ | refine zaaf ?_ _)); exact zaaz.out) hg (Kd.S_away HO_3.out (fun _ hk => hk.2))); have n1_ := zaaq (hb); have n2_ := zaaq (ho); clear zaaz; clear HB; clear HO_3; clear HO291; have zaaz := n0_; have HB := n1_; have HO294 := n2_; clear n0_ n1_ n2_; clear ho hb hg hat))
       go_roundg k1
       case measure => have := HK1.out; omega
       case rel => exact ⟨(y292), (wrap64 (zaaw + 1)), (by first | rfl | (simp; done) | (simp [*]; done)), H', ⟨by have := HK1.out; omega⟩, ⟨by (with_reducible repeat (first | apply Kd.S_alloc | apply Kd.S_drewN | apply Kd.S_drew)); exact Kd.S_mono HO294.out (fun _ hk => trivial)⟩, ⟨by repeat (first | (with_reducible first | exact HB.out | apply zaak | apply zaai | apply zaaj | refine zaah ?_ zabh.out) | exact HB.out)⟩⟩
      ·rw [if_neg c6] at H
       exact absurd H (by simp)
     ·rw [if_neg c4] at H
      exact absurd H (by simp)
    ·rw [if_neg c3] at H
     exact absurd H (by simp)
   ·rw [if_neg c2] at H
    have c2b0 : decide (zaaw < (l0.length : Int)) = false := decide_eq_false c2
    clear c2
    obtain rfl := Option.some.inj H
    go_wp2
    go_ret
    exact ⟨_, by first | rfl | (simp [errW_none, errW_some] <;> rfl) | (simp [*, errW_none, errW_some] <;> rfl), by (with_reducible repeat (first | apply Kd.S_alloc | apply Kd.S_drewN | apply Kd.S_drew)); exact HO_3.out, by repeat (first | (with_reducible first | exact HB.out | apply zaak | apply zaai | apply zaaj) | exact HB.out)⟩

-- NOT PRINTED: function 51 (api_Part_int)

-- given: parts_find

-- NOT PRINTED: function 53 (api_Part_53)

-- NOT PRINTED: function 89 (api_Part_89)

-- NOT PRINTED: function 72 (api_Part_72)

-- NOT PRINTED: function 54 (api_Part_54)

-- NOT PRINTED: function 24 (api_Part_24)

-- NOT PRINTED: function 7 (parts_Put)

-- NOT PRINTED: function 9 (digest_Sum)
end Go.Proofs.YtpgbkeaaklglkaaGreatDoor.Q