

/- Written by a program of this session (wip/patch_print.py over the kit's print): functions of the given program as plain Lean functions, and that each call does what its function says, under no further conditions. -/
import Derived.Test.YtabngibognlmoaaQx0
import Derived.Test.YtabngibognlmoaaQx10
namespace Go.Proofs.Ytabngibognlmoaa.Q
open Go.RowKit Go.Proofs.YtabngibognlmoaaW.PrintWords Go.Proofs.YtabngibognlmoaaW.PrintLast Go.Proofs.YtabngibognlmoaaW.PrintMore
attribute [local go_sem] max2_int min2_int max_two min_two max_three min_three max_four min_four   -- for this text's walks alone
set_option linter.unusedVariables false
set_option linter.unusedSimpArgs false
attribute [local go_sem] xor_ones_u8 xor_ones_u16 xor_ones_u32 xor_ones_u64 cell_twice frozen_twice
abbrev zmaa := @pw_below_drewN
abbrev zmab := @below_drew1
abbrev zmac := @below_alloc
abbrev zmad := @blk_cell
abbrev zmae := @blk_frozen
abbrev zmaf := @Aside0.mk
/-! ### stowageref04_Name: function 32 -/
mutual
def stowageref04_Name.j0 : Nat → ByteArray → Bool → Option (Bool)
 | 0, _, _ => none
 | k + 1, x0, x12 => if x12 = true then (some false) else (stowageref04_Name.l0 k x0 0)
def stowageref04_Name.l0 : Nat → ByteArray → Int → Option (Bool)
 | 0, _, _ => none
 | k + 1, x0, x3 => if x3 < (x0.size : Int) then (if 0 ≤ x3 then (if (bt x0 x3) ≥ 97 then (if (bt x0 x3) ≥ 48 then (if ((bt x0 x3) ≤ 122) then (stowageref04_Name.l0 k x0 (wrap64 (x3 + 1))) else (if ((bt x0 x3) ≤ 57) then (stowageref04_Name.l0 k x0 (wrap64 (x3 + 1))) else (if (bt x0 x3) = 46 then (stowageref04_Name.l0 k x0 (wrap64 (x3 + 1))) else (if (bt x0 x3) = 45 then (stowageref04_Name.l0 k x0 (wrap64 (x3 + 1))) else (some false))))) else (if ((bt x0 x3) ≤ 122) then (stowageref04_Name.l0 k x0 (wrap64 (x3 + 1))) else (if (bt x0 x3) = 46 then (stowageref04_Name.l0 k x0 (wrap64 (x3 + 1))) else (if (bt x0 x3) = 45 then (stowageref04_Name.l0 k x0 (wrap64 (x3 + 1))) else (some false))))) else (if (bt x0 x3) ≥ 48 then (if ((bt x0 x3) ≤ 57) then (stowageref04_Name.l0 k x0 (wrap64 (x3 + 1))) else (if (bt x0 x3) = 46 then (stowageref04_Name.l0 k x0 (wrap64 (x3 + 1))) else (if (bt x0 x3) = 45 then (stowageref04_Name.l0 k x0 (wrap64 (x3 + 1))) else (some false)))) else (if (bt x0 x3) = 46 then (stowageref04_Name.l0 k x0 (wrap64 (x3 + 1))) else (if (bt x0 x3) = 45 then (stowageref04_Name.l0 k x0 (wrap64 (x3 + 1))) else (some false))))) else (none)) else (some true)
end
def stowageref04_Name.f (k : Nat) (a0 : ByteArray) : Option (Bool) := if a0.toList = ([] : List UInt8) then (stowageref04_Name.j0 k a0 true) else (stowageref04_Name.j0 k a0 (decide ((a0.size : Int) > 80)))
set_option maxHeartbeats 8000000 in
set_option maxRecDepth 100000 in
theorem stowageref04_Name.calls (k : Nat) (a0 : ByteArray) (r : Bool) (w : World) (h : stowageref04_Name.f k a0 = some r) :
  Calls Try.prog 32 #[.string a0] w fun e w' => e = .returned (.bool r) ∧ Drawn0 w w' := by
 have H : (if a0.toList = ([] : List UInt8) then (stowageref04_Name.j0 k a0 true) else (stowageref04_Name.j0 k a0 (decide ((a0.size : Int) > 80)))) = some r := h
 clear h
 have HC2 := zmaf H
 clear H
 go_enter Try.func32, Try.ntmps32
 go_upto_region 1 with (fail)
 go_cut [12] (fun v12 wc => ∃ (kq : Nat) (zmam : Bool), v12 = .bool zmam ∧ Aside0 (stowageref04_Name.j0 kq a0 zmam = some r) ∧ Aside0 (kq ≤ k) ∧ Drawn0 w wc)
 case first =>
  have H := HC2.out
  clear HC2
  by_cases c3 : a0.toList = ([] : List UInt8)
  ·rw [if_pos c3] at H
   have c3b0 : (a0.toList == ([] : List UInt8)) = true := beq_iff_eq.mpr c3
   have c3b1 : (a0.toList != ([] : List UInt8)) = false := bne_eq_false_iff_eq.mpr c3
   clear c3
   (first | rw [c3b0] | (simp only [i64_w, i32_w]; rw [c3b0]) | skip)
   have H' := zmaf H
   clear H
   go_wp2
   go_meet
   case rel => exact ⟨_, (true), (by first | rfl | (simp; done) | (simp [*]; done)), H', ⟨by first | omega | exact Nat.le_refl _⟩, by repeat (first | exact Drawn0.refl _ | apply Drawn0.step)⟩
  ·rw [if_neg c3] at H
   have c3b0 : (a0.toList == ([] : List UInt8)) = false := beq_eq_false_iff_ne.mpr c3
   have c3b1 : (a0.toList != ([] : List UInt8)) = true := bne_iff_ne.mpr c3
   (first | rw [c3b0] | (simp only [i64_w, i32_w]; rw [c3b0]) | skip)
   have H' := zmaf H
   clear H
   go_wp2
   go_meet
   case rel => exact ⟨_, (decide ((a0.size : Int) > 80)), (by first | rfl | (simp; done) | (simp [*]; done)), H', ⟨by first | omega | exact Nat.le_refl _⟩, by repeat (first | exact Drawn0.refl _ | apply Drawn0.step)⟩
 case rest =>
  clear HC2
  try clear p2
  try clear c3
  try clear c3b0
  try clear c3b1
  obtain ⟨kq, zmam, rfl, HA, HJ1, ⟨mc1, rfl⟩⟩ := hcut
  cases kq with
  | zero => exact absurd HA.out (by simp [stowageref04_Name.j0])
  | succ kj1 =>
   have H := HA.out
   clear HA
   simp only [stowageref04_Name.j0] at H
   by_cases c4 : zmam = true
   ·subst c4
    have H1 : (some false) = some r := by rw [if_pos rfl] at H; exact H
    clear H
    have H := H1
    clear H1
    obtain rfl := Option.some.inj H
    go_wp2
    go_ret
    exact ⟨by first | rfl | (simp; done) | (simp [*]; done), by repeat (first | exact Drawn0.refl _ | apply Drawn0.step)⟩
   ·replace c4 := Bool.eq_false_iff.mpr c4
    subst c4
    have H1 : (stowageref04_Name.l0 kj1 a0 0) = some r := by rw [if_neg (show ¬ (false = true) by decide)] at H; exact H
    clear H
    have H := H1
    clear H1
    have H' := zmaf H
    clear H
    go_wp2
    go_loopg [3] kj1 (fun kq v3 w' => ∃ (zmag : Int), v3 = .int .i64 zmag ∧ Aside0 (stowageref04_Name.l0 kq a0 zmag = some r) ∧ Aside0 (kq ≤ kj1) ∧ Drawn0 w w')
    case atStart => exact ⟨(0), (by first | rfl | (simp; done) | (simp [*]; done)), H', ⟨Nat.le_refl _⟩, by repeat (first | exact Drawn0.refl _ | apply Drawn0.step)⟩
    case round =>
     clear H'
     try clear c1
     try clear p2
     try clear c3
     try clear c3b0
     try clear c3b1
     try clear c4
     try clear p2
     obtain ⟨zmag, rfl, HA, HK2, ⟨m2, rfl⟩⟩ := hrel
     cases gk with
     | zero => exact absurd HA.out (by simp [stowageref04_Name.l0])
     | succ k2 =>
      have H := HA.out
      clear HA
      simp only [stowageref04_Name.l0] at H
      by_cases c5 : zmag < (a0.size : Int)
      ·rw [if_pos c5] at H
       have c5b0 : decide (zmag < (a0.size : Int)) = true := decide_eq_true c5
       clear c5
       by_cases c6 : 0 ≤ zmag
       ·rw [if_pos c6] at H
        have c6b0 : decide (0 ≤ zmag) = true := decide_eq_true c6
        clear c6
        by_cases c8 : (bt a0 zmag) ≥ 97
        ·rw [if_pos c8] at H
         have c8b0 : decide (97 ≤ (bt a0 zmag)) = true := decide_eq_true c8
         clear c8
         by_cases c11 : (bt a0 zmag) ≥ 48
         ·rw [if_pos c11] at H
          have c11b0 : decide (48 ≤ (bt a0 zmag)) = true := decide_eq_true c11
          clear c11
          by_cases c13 : ((bt a0 zmag) ≤ 122)
          ·rw [if_pos c13] at H
           have c13b0 : decide ((bt a0 zmag) ≤ 122) = true := decide_eq_true c13
           clear c13
           have H' := zmaf H
           clear H
           have p7 : 0 ≤ (zmag : Int) := of_decide_eq_true (by first | (with_reducible assumption) | assumption)
           have q7 : zmag < (a0.size : Int) := of_decide_eq_true (by first | (with_reducible assumption) | assumption)
           have hx7 := bt_at a0 zmag
           replace p7 := eq_true p7
           replace q7 := eq_true q7
           have p9 : 0 ≤ (zmag : Int) := of_decide_eq_true (by first | (with_reducible assumption) | assumption)
           have q9 : zmag < (a0.size : Int) := of_decide_eq_true (by first | (with_reducible assumption) | assumption)
           have hx9 := bt_at a0 zmag
           replace p9 := eq_true p9
           replace q9 := eq_true q9
           have p10 : 0 ≤ (zmag : Int) := of_decide_eq_true (by first | (with_reducible assumption) | assumption)
           have q10 : zmag < (a0.size : Int) := of_decide_eq_true (by first | (with_reducible assumption) | assumption)
           have hx10 := bt_at a0 zmag
           replace p10 := eq_true p10
           replace q10 := eq_true q10
           have p12 : 0 ≤ (zmag : Int) := of_decide_eq_true (by first | (with_reducible assumption) | assumption)
           have q12 : zmag < (a0.size : Int) := of_decide_eq_true (by first | (with_reducible assumption) | assumption)
           have hx12 := bt_at a0 zmag
           replace p12 := eq_true p12
           replace q12 := eq_true q12
           go_wp2
           go_roundg k2
           case measure => have := HJ1.out; have := HK2.out; omega
           case rel => exact ⟨(wrap64 (zmag + 1)), (by first | rfl | (simp; done) | (simp [*]; done)), H', ⟨by have := HJ1.out; have := HK2.out; omega⟩, by repeat (first | exact Drawn0.refl _ | apply Drawn0.step)⟩
          ·rw [if_neg c13] at H
           have c13b0 : decide ((bt a0 zmag) ≤ 122) = false := decide_eq_false c13
           clear c13
           by_cases c14 : ((bt a0 zmag) ≤ 57)
           ·rw [if_pos c14] at H
            have c14b0 : decide ((bt a0 zmag) ≤ 57) = true := decide_eq_true c14
            clear c14
            have H' := zmaf H
            clear H
            have p7 : 0 ≤ (zmag : Int) := of_decide_eq_true (by first | (with_reducible assumption) | assumption)
            have q7 : zmag < (a0.size : Int) := of_decide_eq_true (by first | (with_reducible assumption) | assumption)
            have hx7 := bt_at a0 zmag
            replace p7 := eq_true p7
            replace q7 := eq_true q7
            have p9 : 0 ≤ (zmag : Int) := of_decide_eq_true (by first | (with_reducible assumption) | assumption)
            have q9 : zmag < (a0.size : Int) := of_decide_eq_true (by first | (with_reducible assumption) | assumption)
            have hx9 := bt_at a0 zmag
            replace p9 := eq_true p9
            replace q9 := eq_true q9
            have p10 : 0 ≤ (zmag : Int) := of_decide_eq_true (by first | (with_reducible assumption) | assumption)
            have q10 : zmag < (a0.size : Int) := of_decide_eq_true (by first | (with_reducible assumption) | assumption)
            have hx10 := bt_at a0 zmag
            replace p10 := eq_true p10
            replace q10 := eq_true q10
            have p12 : 0 ≤ (zmag : Int) := of_decide_eq_true (by first | (with_reducible assumption) | assumption)
            have q12 : zmag < (a0.size : Int) := of_decide_eq_true (by first | (with_reducible assumption) | assumption)
            have hx12 := bt_at a0 zmag
            replace p12 := eq_true p12
            replace q12 := eq_true q12
            go_wp2
            go_roundg k2
            case measure => have := HJ1.out; have := HK2.out; omega
            case rel => exact ⟨(wrap64 (zmag + 1)), (by first | rfl | (simp; done) | (simp [*]; done)), H', ⟨by have := HJ1.out; have := HK2.out; omega⟩, by repeat (first | exact Drawn0.refl _ | apply Drawn0.step)⟩
           ·rw [if_neg c14] at H
            have c14b0 : decide ((bt a0 zmag) ≤ 57) = false := decide_eq_false c14
            clear c14
            by_cases c16 : (bt a0 zmag) = 46
            ·rw [if_pos c16] at H
             have c16b0 : ((bt a0 zmag) == 46) = true := beq_iff_eq.mpr c16
             have c16b1 : ((bt a0 zmag) != 46) = false := bne_eq_false_iff_eq.mpr c16
             clear c16
             have H' := zmaf H
             clear H
             have p7 : 0 ≤ (zmag : Int) := of_decide_eq_true (by first | (with_reducible assumption) | assumption)
             have q7 : zmag < (a0.size : Int) := of_decide_eq_true (by first | (with_reducible assumption) | assumption)
             have hx7 := bt_at a0 zmag
             replace p7 := eq_true p7
             replace q7 := eq_true q7
             have p9 : 0 ≤ (zmag : Int) := of_decide_eq_true (by first | (with_reducible assumption) | assumption)
             have q9 : zmag < (a0.size : Int) := of_decide_eq_true (by first | (with_reducible assumption) | assumption)
             have hx9 := bt_at a0 zmag
             replace p9 := eq_true p9
             replace q9 := eq_true q9
             have p10 : 0 ≤ (zmag : Int) := of_decide_eq_true (by first | (with_reducible assumption) | assumption)
             have q10 : zmag < (a0.size : Int) := of_decide_eq_true (by first | (with_reducible assumption) | assumption)
             have hx10 := bt_at a0 zmag
             replace p10 := eq_true p10
             replace q10 := eq_true q10
             have p12 : 0 ≤ (zmag : Int) := of_decide_eq_true (by first | (with_reducible assumption) | assumption)
             have q12 : zmag < (a0.size : Int) := of_decide_eq_true (by first | (with_reducible assumption) | assumption)
             have hx12 := bt_at a0 zmag
             replace p12 := eq_true p12
             replace q12 := eq_true q12
             have p15 : 0 ≤ (zmag : Int) := of_decide_eq_true (by first | (with_reducible assumption) | assumption)
             have q15 : zmag < (a0.size : Int) := of_decide_eq_true (by first | (with_reducible assumption) | assumption)
             have hx15 := bt_at a0 zmag
             replace p15 := eq_true p15
             replace q15 := eq_true q15
             go_wp2
             go_roundg k2
             case measure => have := HJ1.out; have := HK2.out; omega
             case rel => exact ⟨(wrap64 (zmag + 1)), (by first | rfl | (simp; done) | (simp [*]; done)), H', ⟨by have := HJ1.out; have := HK2.out; omega⟩, by repeat (first | exact Drawn0.refl _ | apply Drawn0.step)⟩
            ·rw [if_neg c16] at H
             have c16b0 : ((bt a0 zmag) == 46) = false := beq_eq_false_iff_ne.mpr c16
             have c16b1 : ((bt a0 zmag) != 46) = true := bne_iff_ne.mpr c16
             by_cases c18 : (bt a0 zmag) = 45
             ·rw [if_pos c18] at H
              have c18b0 : ((bt a0 zmag) == 45) = true := beq_iff_eq.mpr c18
              have c18b1 : ((bt a0 zmag) != 45) = false := bne_eq_false_iff_eq.mpr c18
              clear c18
              have H' := zmaf H
              clear H
              have p7 : 0 ≤ (zmag : Int) := of_decide_eq_true (by first | (with_reducible assumption) | assumption)
              have q7 : zmag < (a0.size : Int) := of_decide_eq_true (by first | (with_reducible assumption) | assumption)
              have hx7 := bt_at a0 zmag
              replace p7 := eq_true p7
              replace q7 := eq_true q7
              have p9 : 0 ≤ (zmag : Int) := of_decide_eq_true (by first | (with_reducible assumption) | assumption)
              have q9 : zmag < (a0.size : Int) := of_decide_eq_true (by first | (with_reducible assumption) | assumption)
              have hx9 := bt_at a0 zmag
              replace p9 := eq_true p9
              replace q9 := eq_true q9
              have p10 : 0 ≤ (zmag : Int) := of_decide_eq_true (by first | (with_reducible assumption) | assumption)
              have q10 : zmag < (a0.size : Int) := of_decide_eq_true (by first | (with_reducible assumption) | assumption)
              have hx10 := bt_at a0 zmag
              replace p10 := eq_true p10
              replace q10 := eq_true q10
              have p12 : 0 ≤ (zmag : Int) := of_decide_eq_true (by first | (with_reducible assumption) | assumption)
              have q12 : zmag < (a0.size : Int) := of_decide_eq_true (by first | (with_reducible assumption) | assumption)
              have hx12 := bt_at a0 zmag
              replace p12 := eq_true p12
              replace q12 := eq_true q12
              have p15 : 0 ≤ (zmag : Int) := of_decide_eq_true (by first | (with_reducible assumption) | assumption)
              have q15 : zmag < (a0.size : Int) := of_decide_eq_true (by first | (with_reducible assumption) | assumption)
              have hx15 := bt_at a0 zmag
              replace p15 := eq_true p15
              replace q15 := eq_true q15
              have p17 : 0 ≤ (zmag : Int) := of_decide_eq_true (by first | (with_reducible assumption) | assumption)
              have q17 : zmag < (a0.size : Int) := of_decide_eq_true (by first | (with_reducible assumption) | assumption)
              have hx17 := bt_at a0 zmag
              replace p17 := eq_true p17
              replace q17 := eq_true q17
              go_wp2
              go_roundg k2
              case measure => have := HJ1.out; have := HK2.out; omega
              case rel => exact ⟨(wrap64 (zmag + 1)), (by first | rfl | (simp; done) | (simp [*]; done)), H', ⟨by have := HJ1.out; have := HK2.out; omega⟩, by repeat (first | exact Drawn0.refl _ | apply Drawn0.step)⟩
             ·rw [if_neg c18] at H
              have c18b0 : ((bt a0 zmag) == 45) = false := beq_eq_false_iff_ne.mpr c18
              have c18b1 : ((bt a0 zmag) != 45) = true := bne_iff_ne.mpr c18
              obtain rfl := Option.some.inj H
              have p7 : 0 ≤ (zmag : Int) := of_decide_eq_true (by first | (with_reducible assumption) | assumption)
              have q7 : zmag < (a0.size : Int) := of_decide_eq_true (by first | (with_reducible assumption) | assumption)
              have hx7 := bt_at a0 zmag
              replace p7 := eq_true p7
              replace q7 := eq_true q7
              have p9 : 0 ≤ (zmag : Int) := of_decide_eq_true (by first | (with_reducible assumption) | assumption)
              have q9 : zmag < (a0.size : Int) := of_decide_eq_true (by first | (with_reducible assumption) | assumption)
              have hx9 := bt_at a0 zmag
              replace p9 := eq_true p9
              replace q9 := eq_true q9
              have p10 : 0 ≤ (zmag : Int) := of_decide_eq_true (by first | (with_reducible assumption) | assumption)
              have q10 : zmag < (a0.size : Int) := of_decide_eq_true (by first | (with_reducible assumption) | assumption)
              have hx10 := bt_at a0 zmag
              replace p10 := eq_true p10
              replace q10 := eq_true q10
              have p12 : 0 ≤ (zmag : Int) := of_decide_eq_true (by first | (with_reducible assumption) | assumption)
              have q12 : zmag < (a0.size : Int) := of_decide_eq_true (by first | (with_reducible assumption) | assumption)
              have hx12 := bt_at a0 zmag
              replace p12 := eq_true p12
              replace q12 := eq_true q12
              have p15 : 0 ≤ (zmag : Int) := of_decide_eq_true (by first | (with_reducible assumption) | assumption)
              have q15 : zmag < (a0.size : Int) := of_decide_eq_true (by first | (with_reducible assumption) | assumption)
              have hx15 := bt_at a0 zmag
              replace p15 := eq_true p15
              replace q15 := eq_true q15
              have p17 : 0 ≤ (zmag : Int) := of_decide_eq_true (by first | (with_reducible assumption) | assumption)
              have q17 : zmag < (a0.size : Int) := of_decide_eq_true (by first | (with_reducible assumption) | assumption)
              have hx17 := bt_at a0 zmag
              replace p17 := eq_true p17
              replace q17 := eq_true q17
              go_wp2
              go_ret
              exact ⟨by first | rfl | (simp; done) | (simp [*]; done), by repeat (first | exact Drawn0.refl _ | apply Drawn0.step)⟩
         ·rw [if_neg c11] at H
          have c11b0 : decide (48 ≤ (bt a0 zmag)) = false := decide_eq_false c11
          clear c11
          by_cases c19 : ((bt a0 zmag) ≤ 122)
          ·rw [if_pos c19] at H
           have c19b0 : decide ((bt a0 zmag) ≤ 122) = true := decide_eq_true c19
           clear c19
           have H' := zmaf H
           clear H
           have p7 : 0 ≤ (zmag : Int) := of_decide_eq_true (by first | (with_reducible assumption) | assumption)
           have q7 : zmag < (a0.size : Int) := of_decide_eq_true (by first | (with_reducible assumption) | assumption)
           have hx7 := bt_at a0 zmag
           replace p7 := eq_true p7
           replace q7 := eq_true q7
           have p9 : 0 ≤ (zmag : Int) := of_decide_eq_true (by first | (with_reducible assumption) | assumption)
           have q9 : zmag < (a0.size : Int) := of_decide_eq_true (by first | (with_reducible assumption) | assumption)
           have hx9 := bt_at a0 zmag
           replace p9 := eq_true p9
           replace q9 := eq_true q9
           have p10 : 0 ≤ (zmag : Int) := of_decide_eq_true (by first | (with_reducible assumption) | assumption)
           have q10 : zmag < (a0.size : Int) := of_decide_eq_true (by first | (with_reducible assumption) | assumption)
           have hx10 := bt_at a0 zmag
           replace p10 := eq_true p10
           replace q10 := eq_true q10
           go_wp2
           go_roundg k2
           case measure => have := HJ1.out; have := HK2.out; omega
           case rel => exact ⟨(wrap64 (zmag + 1)), (by first | rfl | (simp; done) | (simp [*]; done)), H', ⟨by have := HJ1.out; have := HK2.out; omega⟩, by repeat (first | exact Drawn0.refl _ | apply Drawn0.step)⟩
          ·rw [if_neg c19] at H
           have c19b0 : decide ((bt a0 zmag) ≤ 122) = false := decide_eq_false c19
           clear c19
           by_cases c21 : (bt a0 zmag) = 46
           ·rw [if_pos c21] at H
            have c21b0 : ((bt a0 zmag) == 46) = true := beq_iff_eq.mpr c21
            have c21b1 : ((bt a0 zmag) != 46) = false := bne_eq_false_iff_eq.mpr c21
            clear c21
            have H' := zmaf H
            clear H
            have p7 : 0 ≤ (zmag : Int) := of_decide_eq_true (by first | (with_reducible assumption) | assumption)
            have q7 : zmag < (a0.size : Int) := of_decide_eq_true (by first | (with_reducible assumption) | assumption)
            have hx7 := bt_at a0 zmag
            replace p7 := eq_true p7
            replace q7 := eq_true q7
            have p9 : 0 ≤ (zmag : Int) := of_decide_eq_true (by first | (with_reducible assumption) | assumption)
            have q9 : zmag < (a0.size : Int) := of_decide_eq_true (by first | (with_reducible assumption) | assumption)
            have hx9 := bt_at a0 zmag
            replace p9 := eq_true p9
            replace q9 := eq_true q9
            have p10 : 0 ≤ (zmag : Int) := of_decide_eq_true (by first | (with_reducible assumption) | assumption)
            have q10 : zmag < (a0.size : Int) := of_decide_eq_true (by first | (with_reducible assumption) | assumption)
            have hx10 := bt_at a0 zmag
            replace p10 := eq_true p10
            replace q10 := eq_true q10
            have p20 : 0 ≤ (zmag : Int) := of_decide_eq_true (by first | (with_reducible assumption) | assumption)
            have q20 : zmag < (a0.size : Int) := of_decide_eq_true (by first | (with_reducible assumption) | assumption)
            have hx20 := bt_at a0 zmag
            replace p20 := eq_true p20
            replace q20 := eq_true q20
            go_wp2
            go_roundg k2
            case measure => have := HJ1.out; have := HK2.out; omega
            case rel => exact ⟨(wrap64 (zmag + 1)), (by first | rfl | (simp; done) | (simp [*]; done)), H', ⟨by have := HJ1.out; have := HK2.out; omega⟩, by repeat (first | exact Drawn0.refl _ | apply Drawn0.step)⟩
           ·rw [if_neg c21] at H
            have c21b0 : ((bt a0 zmag) == 46) = false := beq_eq_false_iff_ne.mpr c21
            have c21b1 : ((bt a0 zmag) != 46) = true := bne_iff_ne.mpr c21
            by_cases c23 : (bt a0 zmag) = 45
            ·rw [if_pos c23] at H
             have c23b0 : ((bt a0 zmag) == 45) = true := beq_iff_eq.mpr c23
             have c23b1 : ((bt a0 zmag) != 45) = false := bne_eq_false_iff_eq.mpr c23
             clear c23
             have H' := zmaf H
             clear H
             have p7 : 0 ≤ (zmag : Int) := of_decide_eq_true (by first | (with_reducible assumption) | assumption)
             have q7 : zmag < (a0.size : Int) := of_decide_eq_true (by first | (with_reducible assumption) | assumption)
             have hx7 := bt_at a0 zmag
             replace p7 := eq_true p7
             replace q7 := eq_true q7
             have p9 : 0 ≤ (zmag : Int) := of_decide_eq_true (by first | (with_reducible assumption) | assumption)
             have q9 : zmag < (a0.size : Int) := of_decide_eq_true (by first | (with_reducible assumption) | assumption)
             have hx9 := bt_at a0 zmag
             replace p9 := eq_true p9
             replace q9 := eq_true q9
             have p10 : 0 ≤ (zmag : Int) := of_decide_eq_true (by first | (with_reducible assumption) | assumption)
             have q10 : zmag < (a0.size : Int) := of_decide_eq_true (by first | (with_reducible assumption) | assumption)
             have hx10 := bt_at a0 zmag
             replace p10 := eq_true p10
             replace q10 := eq_true q10
             have p20 : 0 ≤ (zmag : Int) := of_decide_eq_true (by first | (with_reducible assumption) | assumption)
             have q20 : zmag < (a0.size : Int) := of_decide_eq_true (by first | (with_reducible assumption) | assumption)
             have hx20 := bt_at a0 zmag
             replace p20 := eq_true p20
             replace q20 := eq_true q20
             have p22 : 0 ≤ (zmag : Int) := of_decide_eq_true (by first | (with_reducible assumption) | assumption)
             have q22 : zmag < (a0.size : Int) := of_decide_eq_true (by first | (with_reducible assumption) | assumption)
             have hx22 := bt_at a0 zmag
             replace p22 := eq_true p22
             replace q22 := eq_true q22
             go_wp2
             go_roundg k2
             case measure => have := HJ1.out; have := HK2.out; omega
             case rel => exact ⟨(wrap64 (zmag + 1)), (by first | rfl | (simp; done) | (simp [*]; done)), H', ⟨by have := HJ1.out; have := HK2.out; omega⟩, by repeat (first | exact Drawn0.refl _ | apply Drawn0.step)⟩
            ·rw [if_neg c23] at H
             have c23b0 : ((bt a0 zmag) == 45) = false := beq_eq_false_iff_ne.mpr c23
             have c23b1 : ((bt a0 zmag) != 45) = true := bne_iff_ne.mpr c23
             obtain rfl := Option.some.inj H
             have p7 : 0 ≤ (zmag : Int) := of_decide_eq_true (by first | (with_reducible assumption) | assumption)
             have q7 : zmag < (a0.size : Int) := of_decide_eq_true (by first | (with_reducible assumption) | assumption)
             have hx7 := bt_at a0 zmag
             replace p7 := eq_true p7
             replace q7 := eq_true q7
             have p9 : 0 ≤ (zmag : Int) := of_decide_eq_true (by first | (with_reducible assumption) | assumption)
             have q9 : zmag < (a0.size : Int) := of_decide_eq_true (by first | (with_reducible assumption) | assumption)
             have hx9 := bt_at a0 zmag
             replace p9 := eq_true p9
             replace q9 := eq_true q9
             have p10 : 0 ≤ (zmag : Int) := of_decide_eq_true (by first | (with_reducible assumption) | assumption)
             have q10 : zmag < (a0.size : Int) := of_decide_eq_true (by first | (with_reducible assumption) | assumption)
             have hx10 := bt_at a0 zmag
             replace p10 := eq_true p10
             replace q10 := eq_true q10
             have p20 : 0 ≤ (zmag : Int) := of_decide_eq_true (by first | (with_reducible assumption) | assumption)
             have q20 : zmag < (a0.size : Int) := of_decide_eq_true (by first | (with_reducible assumption) | assumption)
             have hx20 := bt_at a0 zmag
             replace p20 := eq_true p20
             replace q20 := eq_true q20
             have p22 : 0 ≤ (zmag : Int) := of_decide_eq_true (by first | (with_reducible assumption) | assumption)
             have q22 : zmag < (a0.size : Int) := of_decide_eq_true (by first | (with_reducible assumption) | assumption)
             have hx22 := bt_at a0 zmag
             replace p22 := eq_true p22
             replace q22 := eq_true q22
             go_wp2
             go_ret
             exact ⟨by first | rfl | (simp; done) | (simp [*]; done), by repeat (first | exact Drawn0.refl _ | apply Drawn0.step)⟩
        ·rw [if_neg c8] at H
         have c8b0 : decide (97 ≤ (bt a0 zmag)) = false := decide_eq_false c8
         clear c8
         by_cases c25 : (bt a0 zmag) ≥ 48
         ·rw [if_pos c25] at H
          have c25b0 : decide (48 ≤ (bt a0 zmag)) = true := decide_eq_true c25
          clear c25
          by_cases c27 : ((bt a0 zmag) ≤ 57)
          ·rw [if_pos c27] at H
           have c27b0 : decide ((bt a0 zmag) ≤ 57) = true := decide_eq_true c27
           clear c27
           have H' := zmaf H
           clear H
           have p7 : 0 ≤ (zmag : Int) := of_decide_eq_true (by first | (with_reducible assumption) | assumption)
           have q7 : zmag < (a0.size : Int) := of_decide_eq_true (by first | (with_reducible assumption) | assumption)
           have hx7 := bt_at a0 zmag
           replace p7 := eq_true p7
           replace q7 := eq_true q7
           have p24 : 0 ≤ (zmag : Int) := of_decide_eq_true (by first | (with_reducible assumption) | assumption)
           have q24 : zmag < (a0.size : Int) := of_decide_eq_true (by first | (with_reducible assumption) | assumption)
           have hx24 := bt_at a0 zmag
           replace p24 := eq_true p24
           replace q24 := eq_true q24
           have p26 : 0 ≤ (zmag : Int) := of_decide_eq_true (by first | (with_reducible assumption) | assumption)
           have q26 : zmag < (a0.size : Int) := of_decide_eq_true (by first | (with_reducible assumption) | assumption)
           have hx26 := bt_at a0 zmag
           replace p26 := eq_true p26
           replace q26 := eq_true q26
           go_wp2
           go_roundg k2
           case measure => have := HJ1.out; have := HK2.out; omega
           case rel => exact ⟨(wrap64 (zmag + 1)), (by first | rfl | (simp; done) | (simp [*]; done)), H', ⟨by have := HJ1.out; have := HK2.out; omega⟩, by repeat (first | exact Drawn0.refl _ | apply Drawn0.step)⟩
          ·rw [if_neg c27] at H
           have c27b0 : decide ((bt a0 zmag) ≤ 57) = false := decide_eq_false c27
           clear c27
           by_cases c29 : (bt a0 zmag) = 46
           ·rw [if_pos c29] at H
            have c29b0 : ((bt a0 zmag) == 46) = true := beq_iff_eq.mpr c29
            have c29b1 : ((bt a0 zmag) != 46) = false := bne_eq_false_iff_eq.mpr c29
            clear c29
            have H' := zmaf H
            clear H
            have p7 : 0 ≤ (zmag : Int) := of_decide_eq_true (by first | (with_reducible assumption) | assumption)
            have q7 : zmag < (a0.size : Int) := of_decide_eq_true (by first | (with_reducible assumption) | assumption)
            have hx7 := bt_at a0 zmag
            replace p7 := eq_true p7
            replace q7 := eq_true q7
            have p24 : 0 ≤ (zmag : Int) := of_decide_eq_true (by first | (with_reducible assumption) | assumption)
            have q24 : zmag < (a0.size : Int) := of_decide_eq_true (by first | (with_reducible assumption) | assumption)
            have hx24 := bt_at a0 zmag
            replace p24 := eq_true p24
            replace q24 := eq_true q24
            have p26 : 0 ≤ (zmag : Int) := of_decide_eq_true (by first | (with_reducible assumption) | assumption)
            have q26 : zmag < (a0.size : Int) := of_decide_eq_true (by first | (with_reducible assumption) | assumption)
            have hx26 := bt_at a0 zmag
            replace p26 := eq_true p26
            replace q26 := eq_true q26
            have p28 : 0 ≤ (zmag : Int) := of_decide_eq_true (by first | (with_reducible assumption) | assumption)
            have q28 : zmag < (a0.size : Int) := of_decide_eq_true (by first | (with_reducible assumption) | assumption)
            have hx28 := bt_at a0 zmag
            replace p28 := eq_true p28
            replace q28 := eq_true q28
            go_wp2
            go_roundg k2
            case measure => have := HJ1.out; have := HK2.out; omega
            case rel => exact ⟨(wrap64 (zmag + 1)), (by first | rfl | (simp; done) | (simp [*]; done)), H', ⟨by have := HJ1.out; have := HK2.out; omega⟩, by repeat (first | exact Drawn0.refl _ | apply Drawn0.step)⟩
           ·rw [if_neg c29] at H
            have c29b0 : ((bt a0 zmag) == 46) = false := beq_eq_false_iff_ne.mpr c29
            have c29b1 : ((bt a0 zmag) != 46) = true := bne_iff_ne.mpr c29
            by_cases c31 : (bt a0 zmag) = 45
            ·rw [if_pos c31] at H
             have c31b0 : ((bt a0 zmag) == 45) = true := beq_iff_eq.mpr c31
             have c31b1 : ((bt a0 zmag) != 45) = false := bne_eq_false_iff_eq.mpr c31
             clear c31
             have H' := zmaf H
             clear H
             have p7 : 0 ≤ (zmag : Int) := of_decide_eq_true (by first | (with_reducible assumption) | assumption)
             have q7 : zmag < (a0.size : Int) := of_decide_eq_true (by first | (with_reducible assumption) | assumption)
             have hx7 := bt_at a0 zmag
             replace p7 := eq_true p7
             replace q7 := eq_true q7
             have p24 : 0 ≤ (zmag : Int) := of_decide_eq_true (by first | (with_reducible assumption) | assumption)
             have q24 : zmag < (a0.size : Int) := of_decide_eq_true (by first | (with_reducible assumption) | assumption)
             have hx24 := bt_at a0 zmag
             replace p24 := eq_true p24
             replace q24 := eq_true q24
             have p26 : 0 ≤ (zmag : Int) := of_decide_eq_true (by first | (with_reducible assumption) | assumption)
             have q26 : zmag < (a0.size : Int) := of_decide_eq_true (by first | (with_reducible assumption) | assumption)
             have hx26 := bt_at a0 zmag
             replace p26 := eq_true p26
             replace q26 := eq_true q26
             have p28 : 0 ≤ (zmag : Int) := of_decide_eq_true (by first | (with_reducible assumption) | assumption)
             have q28 : zmag < (a0.size : Int) := of_decide_eq_true (by first | (with_reducible assumption) | assumption)
             have hx28 := bt_at a0 zmag
             replace p28 := eq_true p28
             replace q28 := eq_true q28
             have p30 : 0 ≤ (zmag : Int) := of_decide_eq_true (by first | (with_reducible assumption) | assumption)
             have q30 : zmag < (a0.size : Int) := of_decide_eq_true (by first | (with_reducible assumption) | assumption)
             have hx30 := bt_at a0 zmag
             replace p30 := eq_true p30
             replace q30 := eq_true q30
             go_wp2
             go_roundg k2
             case measure => have := HJ1.out; have := HK2.out; omega
             case rel => exact ⟨(wrap64 (zmag + 1)), (by first | rfl | (simp; done) | (simp [*]; done)), H', ⟨by have := HJ1.out; have := HK2.out; omega⟩, by repeat (first | exact Drawn0.refl _ | apply Drawn0.step)⟩
            ·rw [if_neg c31] at H
             have c31b0 : ((bt a0 zmag) == 45) = false := beq_eq_false_iff_ne.mpr c31
             have c31b1 : ((bt a0 zmag) != 45) = true := bne_iff_ne.mpr c31
             obtain rfl := Option.some.inj H
             have p7 : 0 ≤ (zmag : Int) := of_decide_eq_true (by first | (with_reducible assumption) | assumption)
             have q7 : zmag < (a0.size : Int) := of_decide_eq_true (by first | (with_reducible assumption) | assumption)
             have hx7 := bt_at a0 zmag
             replace p7 := eq_true p7
             replace q7 := eq_true q7
             have p24 : 0 ≤ (zmag : Int) := of_decide_eq_true (by first | (with_reducible assumption) | assumption)
             have q24 : zmag < (a0.size : Int) := of_decide_eq_true (by first | (with_reducible assumption) | assumption)
             have hx24 := bt_at a0 zmag
             replace p24 := eq_true p24
             replace q24 := eq_true q24
             have p26 : 0 ≤ (zmag : Int) := of_decide_eq_true (by first | (with_reducible assumption) | assumption)
             have q26 : zmag < (a0.size : Int) := of_decide_eq_true (by first | (with_reducible assumption) | assumption)
             have hx26 := bt_at a0 zmag
             replace p26 := eq_true p26
             replace q26 := eq_true q26
             have p28 : 0 ≤ (zmag : Int) := of_decide_eq_true (by first | (with_reducible assumption) | assumption)
             have q28 : zmag < (a0.size : Int) := of_decide_eq_true (by first | (with_reducible assumption) | assumption)
             have hx28 := bt_at a0 zmag
             replace p28 := eq_true p28
             replace q28 := eq_true q28
             have p30 : 0 ≤ (zmag : Int) := of_decide_eq_true (by first | (with_reducible assumption) | assumption)
             have q30 : zmag < (a0.size : Int) := of_decide_eq_true (by first | (with_reducible assumption) | assumption)
             have hx30 := bt_at a0 zmag
             replace p30 := eq_true p30
             replace q30 := eq_true q30
             go_wp2
             go_ret
             exact ⟨by first | rfl | (simp; done) | (simp [*]; done), by repeat (first | exact Drawn0.refl _ | apply Drawn0.step)⟩
         ·rw [if_neg c25] at H
          have c25b0 : decide (48 ≤ (bt a0 zmag)) = false := decide_eq_false c25
          clear c25
          by_cases c33 : (bt a0 zmag) = 46
          ·rw [if_pos c33] at H
           have c33b0 : ((bt a0 zmag) == 46) = true := beq_iff_eq.mpr c33
           have c33b1 : ((bt a0 zmag) != 46) = false := bne_eq_false_iff_eq.mpr c33
           clear c33
           have H' := zmaf H
           clear H
           have p7 : 0 ≤ (zmag : Int) := of_decide_eq_true (by first | (with_reducible assumption) | assumption)
           have q7 : zmag < (a0.size : Int) := of_decide_eq_true (by first | (with_reducible assumption) | assumption)
           have hx7 := bt_at a0 zmag
           replace p7 := eq_true p7
           replace q7 := eq_true q7
           have p24 : 0 ≤ (zmag : Int) := of_decide_eq_true (by first | (with_reducible assumption) | assumption)
           have q24 : zmag < (a0.size : Int) := of_decide_eq_true (by first | (with_reducible assumption) | assumption)
           have hx24 := bt_at a0 zmag
           replace p24 := eq_true p24
           replace q24 := eq_true q24
           have p32 : 0 ≤ (zmag : Int) := of_decide_eq_true (by first | (with_reducible assumption) | assumption)
           have q32 : zmag < (a0.size : Int) := of_decide_eq_true (by first | (with_reducible assumption) | assumption)
           have hx32 := bt_at a0 zmag
           replace p32 := eq_true p32
           replace q32 := eq_true q32
           go_wp2
           go_roundg k2
           case measure => have := HJ1.out; have := HK2.out; omega
           case rel => exact ⟨(wrap64 (zmag + 1)), (by first | rfl | (simp; done) | (simp [*]; done)), H', ⟨by have := HJ1.out; have := HK2.out; omega⟩, by repeat (first | exact Drawn0.refl _ | apply Drawn0.step)⟩
          ·rw [if_neg c33] at H
           have c33b0 : ((bt a0 zmag) == 46) = false := beq_eq_false_iff_ne.mpr c33
           have c33b1 : ((bt a0 zmag) != 46) = true := bne_iff_ne.mpr c33
           by_cases c35 : (bt a0 zmag) = 45
           ·rw [if_pos c35] at H
            have c35b0 : ((bt a0 zmag) == 45) = true := beq_iff_eq.mpr c35
            have c35b1 : ((bt a0 zmag) != 45) = false := bne_eq_false_iff_eq.mpr c35
            clear c35
            have H' := zmaf H
            clear H
            have p7 : 0 ≤ (zmag : Int) := of_decide_eq_true (by first | (with_reducible assumption) | assumption)
            have q7 : zmag < (a0.size : Int) := of_decide_eq_true (by first | (with_reducible assumption) | assumption)
            have hx7 := bt_at a0 zmag
            replace p7 := eq_true p7
            replace q7 := eq_true q7
            have p24 : 0 ≤ (zmag : Int) := of_decide_eq_true (by first | (with_reducible assumption) | assumption)
            have q24 : zmag < (a0.size : Int) := of_decide_eq_true (by first | (with_reducible assumption) | assumption)
            have hx24 := bt_at a0 zmag
            replace p24 := eq_true p24
            replace q24 := eq_true q24
            have p32 : 0 ≤ (zmag : Int) := of_decide_eq_true (by first | (with_reducible assumption) | assumption)
            have q32 : zmag < (a0.size : Int) := of_decide_eq_true (by first | (with_reducible assumption) | assumption)
            have hx32 := bt_at a0 zmag
            replace p32 := eq_true p32
            replace q32 := eq_true q32
            have p34 : 0 ≤ (zmag : Int) := of_decide_eq_true (by first | (with_reducible assumption) | assumption)
            have q34 : zmag < (a0.size : Int) := of_decide_eq_true (by first | (with_reducible assumption) | assumption)
            have hx34 := bt_at a0 zmag
            replace p34 := eq_true p34
            replace q34 := eq_true q34
            go_wp2
            go_roundg k2
            case measure => have := HJ1.out; have := HK2.out; omega
            case rel => exact ⟨(wrap64 (zmag + 1)), (by first | rfl | (simp; done) | (simp [*]; done)), H', ⟨by have := HJ1.out; have := HK2.out; omega⟩, by repeat (first | exact Drawn0.refl _ | apply Drawn0.step)⟩
           ·rw [if_neg c35] at H
            have c35b0 : ((bt a0 zmag) == 45) = false := beq_eq_false_iff_ne.mpr c35
            have c35b1 : ((bt a0 zmag) != 45) = true := bne_iff_ne.mpr c35
            obtain rfl := Option.some.inj H
            have p7 : 0 ≤ (zmag : Int) := of_decide_eq_true (by first | (with_reducible assumption) | assumption)
            have q7 : zmag < (a0.size : Int) := of_decide_eq_true (by first | (with_reducible assumption) | assumption)
            have hx7 := bt_at a0 zmag
            replace p7 := eq_true p7
            replace q7 := eq_true q7
            have p24 : 0 ≤ (zmag : Int) := of_decide_eq_true (by first | (with_reducible assumption) | assumption)
            have q24 : zmag < (a0.size : Int) := of_decide_eq_true (by first | (with_reducible assumption) | assumption)
            have hx24 := bt_at a0 zmag
            replace p24 := eq_true p24
            replace q24 := eq_true q24
            have p32 : 0 ≤ (zmag : Int) := of_decide_eq_true (by first | (with_reducible assumption) | assumption)
            have q32 : zmag < (a0.size : Int) := of_decide_eq_true (by first | (with_reducible assumption) | assumption)
            have hx32 := bt_at a0 zmag
            replace p32 := eq_true p32
            replace q32 := eq_true q32
            have p34 : 0 ≤ (zmag : Int) := of_decide_eq_true (by first | (with_reducible assumption) | assumption)
            have q34 : zmag < (a0.size : Int) := of_decide_eq_true (by first | (with_reducible assumption) | assumption)
            have hx34 := bt_at a0 zmag
            replace p34 := eq_true p34
            replace q34 := eq_true q34
            go_wp2
            go_ret
            exact ⟨by first | rfl | (simp; done) | (simp [*]; done), by repeat (first | exact Drawn0.refl _ | apply Drawn0.step)⟩
       ·rw [if_neg c6] at H
        exact absurd H (by simp)
      ·rw [if_neg c5] at H
       have c5b0 : decide (zmag < (a0.size : Int)) = false := decide_eq_false c5
       clear c5
       obtain rfl := Option.some.inj H
       go_wp2
       go_ret
       exact ⟨by first | rfl | (simp; done) | (simp [*]; done), by repeat (first | exact Drawn0.refl _ | apply Drawn0.step)⟩

/-! ### stowageref04_Disk_Now: function 49 -/
def stowageref04_Disk_Now.l0 : Nat → List (S48) → Int → List (S48) → List (S86) → Int → Bool → List (S90) → Int → Option ((List (S48)))
 | 0, _, _, _, _, _, _, _, _ => none
 | k + 1, x3, x4, zmao, zmak, zmap, zmaq, zmar, zmas => if x4 < (zmak.length : Int) then (if 0 ≤ x4 then ((stowageref04_Do.f k x3 ((rd_T86 zmak x4).f0) ((rd_T86 zmak x4).f1) ((rd_T86 zmak x4).f2) ((rd_T86 zmak x4).f3) ((rd_T86 zmak x4).f4)).bind fun t294 => (stowageref04_Disk_Now.l0 k t294 (wrap64 (x4 + 1)) zmao zmak zmap zmaq zmar zmas)) else (none)) else (some x3)
def stowageref04_Disk_Now.f (k : Nat) (l0_0 : List (S48)) (l0_1 : List (S86)) (a0_2 : Int) (a0_3 : Bool) (l0_4 : List (S90)) (a0_5 : Int) : Option ((List (S48))) := stowageref04_Disk_Now.l0 k l0_0 0 l0_0 l0_1 a0_2 a0_3 l0_4 a0_5
set_option maxHeartbeats 8000000 in
set_option maxRecDepth 100000 in
theorem stowageref04_Disk_Now.calls (k : Nat) (P0_0_ : Nat → Prop) (A0_0 : Option Addr) (c0_0 : Nat) (l0_0 : List (S48)) (A0_1 : Option Addr) (c0_1 : Nat) (l0_1 : List (S86)) (a0_2 : Int) (a0_3 : Bool) (A0_4 : Option Addr) (c0_4 : Nat) (l0_4 : List (S90)) (a0_5 : Int) (r : List (S48)) (w : World) (hs0_0 : Kd.V k48 48 w w.heap.size (fun k_ => P0_0_ k_) (.slice A0_0 l0_0.length c0_0) l0_0) (hr0_1 : Kd.C k86 w A0_1 l0_1.length l0_1) (hc0_1 : l0_1.length ≤ c0_1) (hr0_4 : Kd.C k90 w A0_4 l0_4.length l0_4) (hc0_4 : l0_4.length ≤ c0_4) (h : stowageref04_Disk_Now.f k l0_0 l0_1 a0_2 a0_3 l0_4 a0_5 = some r) :
  Calls Try.prog 49 #[.agg #[.slice A0_0 l0_0.length c0_0, .slice A0_1 l0_1.length c0_1, .int .i64 a0_2, .bool a0_3, .slice A0_4 l0_4.length c0_4, .int .i64 a0_5]] w fun e w' => ∃ v0_ : Value, e = .returned (v0_) ∧ Kd.V k48 48 w' w.heap.size (fun k_ => (P0_0_ k_ ∨ w.heap.size ≤ k_)) v0_ r ∧ Below w.heap.size w w' := by
 have hu57 := Try.underlying57
 have hu86 := Try.underlying86
 have HO0_0 := zmaf (show Kd.V k48 48 w w.heap.size (fun k_ => (P0_0_ k_ ∨ w.heap.size ≤ k_)) (.slice A0_0 l0_0.length c0_0) l0_0 from Kd.V_mono hs0_0 (fun k_ hk => .inl hk))
 have HR0_1 := zmaf hr0_1
 have HC0_1 := zmaf hc0_1
 clear hr0_1 hc0_1
 have HR0_4 := zmaf hr0_4
 have HC0_4 := zmaf hc0_4
 clear hr0_4 hc0_4
 have HB := zmaf (Below.refl w.heap.size w)
 have H : (stowageref04_Disk_Now.l0 k l0_0 0 l0_0 l0_1 a0_2 a0_3 l0_4 a0_5) = some r := h
 clear h
 have H' := zmaf H
 clear H
 go_enter Try.func49, Try.ntmps49
 go_wp2_with (first | ((with_reducible refine gate_dst (N := 1) rfl ?_); refine box_event ?hg (N := 1) ?hd (cs := #[.slice A0_0 l0_0.length c0_0, .slice A0_1 l0_1.length c0_1, .int .i64 a0_2, .bool a0_3, .slice A0_4 l0_4.length c0_4, .int .i64 a0_5]) (t := 57) ?hr ?_; (case hd => rfl); (case hg => rfl); (case hr => first | (go_simp; done) | (go_simp; rfl)); intro zmai hg w2 hbox hb; have n0_ := zmaf (Kd.V_below (Kd.V_elderB (zvk HO0_0) zmai (Nat.le_of_eq hg.symm)) hb); have n1_ := zmaf (below_step (by repeat (first | (with_reducible first | exact HB.out | apply zmac | apply zmaa | apply zmab) | exact HB.out)) hb); have n2_ := zmaf (hbox); have n3_ := zmaf ((by rw [hg]; exact (below_size (by repeat (first | (with_reducible first | exact HB.out | apply zmac | apply zmaa | apply zmab) | exact HB.out))) : w.heap.size ≤ zmai)); have n4_ := zmaf ((by rw [hg]; exact (below_size (by repeat (first | (with_reducible first | exact HB.out | apply zmac | apply zmaa | apply zmab) | exact HB.out))) : w.heap.size ≤ zmai)); clear HO0_0; clear HB; have HO0_0 := n0_; have HB := n1_; have zmah := n2_; have zmcd := n3_; have zmal := n4_; clear n0_ n1_ n2_ n3_ n4_; clear hb hbox hg; have zmat : w2.cell? ⟨zmai, 0, none⟩ = some (.slice A0_0 l0_0.length c0_0) := (zmad zmah.out 0).trans rfl; have zmau : w2.cell? ⟨zmai, 1, none⟩ = some (.slice A0_1 l0_1.length c0_1) := (zmad zmah.out 1).trans rfl; have zmav : w2.cell? ⟨zmai, 2, none⟩ = some (.int .i64 a0_2) := (zmad zmah.out 2).trans rfl; have zmaw : w2.cell? ⟨zmai, 3, none⟩ = some (.bool a0_3) := (zmad zmah.out 3).trans rfl; have zmax : w2.cell? ⟨zmai, 4, none⟩ = some (.slice A0_4 l0_4.length c0_4) := (zmad zmah.out 4).trans rfl; have zmay : w2.cell? ⟨zmai, 5, none⟩ = some (.int .i64 a0_5) := (zmad zmah.out 5).trans rfl; have zmaz := zmae zmah.out 0; have zmba := zmae zmah.out 1; have zmbb := zmae zmah.out 2; have zmbc := zmae zmah.out 3; have zmbd := zmae zmah.out 4; have zmbe := zmae zmah.out 5))
 go_loopg [3, 4] k (fun kq v3 v4 w' => ∃ (zman : List (S48)) (zmaj : Int), v4 = .int .i64 zmaj ∧ Aside0 (stowageref04_Disk_Now.l0 kq zman zmaj l0_0 l0_1 a0_2 a0_3 l0_4 a0_5 = some r) ∧ Aside0 (kq ≤ k) ∧ Aside0 (Kd.V k48 48 w' w.heap.size (fun k_ => (P0_0_ k_ ∨ w.heap.size ≤ k_) ∧ k_ ≠ zmai) v3 zman) ∧ Aside0 (Kd.V k48 48 w' w.heap.size (fun k_ => (P0_0_ k_ ∨ w.heap.size ≤ k_) ∧ k_ ≠ zmai) (.slice A0_0 l0_0.length c0_0) l0_0) ∧ Aside0 (w'.heap[zmai]? = some (.cells #[(.slice A0_0 l0_0.length c0_0), (.slice A0_1 l0_1.length c0_1), .int .i64 a0_2, .bool a0_3, (.slice A0_4 l0_4.length c0_4), .int .i64 a0_5] 57 (0, 0))) ∧ Aside0 (Below w.heap.size w w'))
 case atStart => exact ⟨(l0_0), (0), (by first | rfl | (simp; done) | (simp [*]; done)), H', ⟨Nat.le_refl _⟩, ⟨zvk HO0_0⟩, ⟨zvk HO0_0⟩, ⟨zbk zmah⟩, ⟨by repeat (first | (with_reducible first | exact HB.out | apply zmac | apply zmaa | apply zmab | refine below_set ?_ zmal.out) | exact HB.out)⟩⟩
 case round =>
  clear H'
  try clear p2
  try clear zmat
  try clear zmau
  try clear zmav
  try clear zmaw
  try clear zmax
  try clear zmay
  try clear zmaz
  try clear zmba
  try clear zmbb
  try clear zmbc
  try clear zmbd
  try clear zmbe
  obtain ⟨zman, zmaj, rfl, HA, HK1, HO_3, HO_293000, zmah, HB⟩ := hrel
  cases gk with
  | zero => exact absurd HA.out (by simp [stowageref04_Disk_Now.l0])
  | succ k1 =>
   have H := HA.out
   clear HA
   simp only [stowageref04_Disk_Now.l0] at H
   by_cases c4 : zmaj < (l0_1.length : Int)
   ·rw [if_pos c4] at H
    have c4b0 : decide (zmaj < (l0_1.length : Int)) = true := decide_eq_true c4
    clear c4
    by_cases c5 : 0 ≤ zmaj
    ·rw [if_pos c5] at H
     have c5b0 : decide (0 ≤ zmaj) = true := decide_eq_true c5
     clear c5
     replace H := Option.bind_eq_some_iff.mp H
     obtain ⟨t294, A60, H⟩ := H
     replace H : (stowageref04_Disk_Now.l0 k1 t294 (wrap64 (zmaj + 1)) l0_0 l0_1 a0_2 a0_3 l0_4 a0_5) = some r := H
     have A6 := zmaf A60
     clear A60
     have H' := zmaf H
     clear H
     have zmbr : wr.cell? ⟨zmai, 0, none⟩ = some (.slice A0_0 l0_0.length c0_0) := (zmad zmah.out 0).trans rfl
     have zmbs : wr.cell? ⟨zmai, 1, none⟩ = some (.slice A0_1 l0_1.length c0_1) := (zmad zmah.out 1).trans rfl
     have zmbt : wr.cell? ⟨zmai, 2, none⟩ = some (.int .i64 a0_2) := (zmad zmah.out 2).trans rfl
     have zmbu : wr.cell? ⟨zmai, 3, none⟩ = some (.bool a0_3) := (zmad zmah.out 3).trans rfl
     have zmbv : wr.cell? ⟨zmai, 4, none⟩ = some (.slice A0_4 l0_4.length c0_4) := (zmad zmah.out 4).trans rfl
     have zmbw : wr.cell? ⟨zmai, 5, none⟩ = some (.int .i64 a0_5) := (zmad zmah.out 5).trans rfl
     have zmbx := zmae zmah.out 0
     have zmby := zmae zmah.out 1
     have zmbz := zmae zmah.out 2
     have zmca := zmae zmah.out 3
     have zmcb := zmae zmah.out 4
     have zmcc := zmae zmah.out 5
     have p293 : 0 ≤ (zmaj : Int) := of_decide_eq_true (by first | (with_reducible assumption) | assumption)
     have q293 : zmaj < (l0_1.length : Int) := of_decide_eq_true (by first | (with_reducible assumption) | assumption)
     obtain ⟨ad293, e293, hx293_0, hx293_1, hx293_2, hx293_3, hx293_4⟩ := at_T86 HR0_1.out zmaj p293 q293
     cases e293
     replace hx293_0 := (HB.out.cell (World.block_lt_of_cell? w _ hx293_0)).trans hx293_0
     replace hx293_1 := (HB.out.cell (World.block_lt_of_cell? w _ hx293_1)).trans hx293_1
     replace hx293_2 := (HB.out.cell (World.block_lt_of_cell? w _ hx293_2)).trans hx293_2
     replace hx293_3 := (HB.out.cell (World.block_lt_of_cell? w _ hx293_3)).trans hx293_3
     replace hx293_4 := (HB.out.cell (World.block_lt_of_cell? w _ hx293_4)).trans hx293_4
     replace p293 := eq_true p293
     replace q293 := eq_true q293
     obtain ⟨Ao8, co8, eo8⟩ := Kd.V_slice HO_3.out
     subst eo8
     go_wp2_with (first | ((with_reducible refine gate_callee (f := 58) rfl ?_); refine goesL_ (some 20) rfl rfl Try.func58 (by kernel_rfl) rfl #[.slice Ao8 zman.length co8, .agg #[.int .i64 ((rd_T86 l0_1 zmaj).f0), .string ((rd_T86 l0_1 zmaj).f1), .string ((rd_T86 l0_1 zmaj).f2), .string ((rd_T86 l0_1 zmaj).f3), .int .i64 ((rd_T86 l0_1 zmaj).f4)]] rfl (by (try simp only [List.map_toArray, List.map_cons, List.map_nil]); first | done | rfl) ?_; (with_reducible refine (stowageref04_Do.calls k1 _ _ zman ((rd_T86 l0_1 zmaj).f0) ((rd_T86 l0_1 zmaj).f1) ((rd_T86 l0_1 zmaj).f2) ((rd_T86 l0_1 zmaj).f3) ((rd_T86 l0_1 zmaj).f4) t294 _ ?side1 ?side2 A6.out).mono ?_); (case side1 => repeat (first | exact (Kd.V_reads' HO_3.out).2.2 | (with_reducible refine Kd.C_alloc ?_ _) | (with_reducible refine Kd.C_drewN ?_ _) | (with_reducible refine Kd.C_drew ?_))); (case side2 => exact (Kd.V_reads' HO_3.out).2.1); rintro e w9 ⟨v295, rfl, ho0, hb⟩; refine ⟨_, rfl, ?_⟩; have n0_ := zmaf (Kd.V_elder' (zvk HO_3) (Kd.R_base ho0) hb); have n1_ := zmaf (Kd.V_elder' (zvk HO_293000) (Kd.R_base ho0) hb); have n2_ := zmaf (Kd.R_lower (Kd.R_newM (M := fun k_ => (w.heap.size ≤ k_)) ho0 (below_size (by repeat (first | (with_reducible first | exact HB.out | apply zmac | apply zmaa | apply zmab | refine below_set ?_ zmal.out) | exact HB.out))) (fun k_ h_ => h_)) (below_size (by repeat (first | (with_reducible first | exact HB.out | apply zmac | apply zmaa | apply zmab | refine below_set ?_ zmal.out) | exact HB.out)))); have n3_ := zmaf (blk_below (g := zmai) (o := .cells #[.slice A0_0 l0_0.length c0_0, .slice (some ad293) l0_1.length c0_1, .int .i64 a0_2, .bool a0_3, .slice A0_4 l0_4.length c0_4, .int .i64 a0_5] 57 (0, 0)) (zbk zmah) hb); have n4_ := zmaf (below_step (by repeat (first | (with_reducible first | exact HB.out | apply zmac | apply zmaa | apply zmab | refine below_set ?_ zmal.out) | exact HB.out)) hb); clear HO_3; clear HO_293000; clear zmah; clear HB; have HO_3 := n0_; have HO_293000 := n1_; have HO296 := n2_; have zmah := n3_; have HB := n4_; clear n0_ n1_ n2_ n3_ n4_; (try clear hb); (try clear hk); (try clear hi); (try clear ho0)))
     go_roundg k1
     case measure => have := HK1.out; omega
     case rel => exact ⟨(t294), (wrap64 (zmaj + 1)), (by first | rfl | (simp; done) | (simp [*]; done)), H', ⟨by have := HK1.out; omega⟩, ⟨Kd.V_mono (Kd.R_V (by (with_reducible repeat (first | apply Kd.R_alloc | apply Kd.R_drewN | apply Kd.R_drew)); exact Kd.R_mono (ok' := fun k_ => w.heap.size ≤ k_ ∧ k_ ≠ zmai) (Kd.R_types HO296.out zmah.out (by decide)) (fun _ hk => by first | exact ⟨hk.1.1, hk.2⟩ | exact ⟨hk.1, hk.2⟩))) (fun k_ hk => by first | exact ⟨(.inr (hk.1)), hk.2⟩ | exact (.inr (hk)))⟩, ⟨by (with_reducible repeat (first | apply Kd.V_alloc | apply Kd.V_drewN | apply Kd.V_drew)); exact Kd.V_mono HO_293000.out (fun _ hk => ⟨hk.1.1, hk.1.2⟩)⟩, ⟨zbk zmah⟩, ⟨by repeat (first | (with_reducible first | exact HB.out | apply zmac | apply zmaa | apply zmab | refine below_set ?_ zmal.out) | exact HB.out)⟩⟩
    ·rw [if_neg c5] at H
     exact absurd H (by simp)
   ·rw [if_neg c4] at H
    have c4b0 : decide (zmaj < (l0_1.length : Int)) = false := decide_eq_false c4
    clear c4
    obtain rfl := Option.some.inj H
    have zmbf : wr.cell? ⟨zmai, 0, none⟩ = some (.slice A0_0 l0_0.length c0_0) := (zmad zmah.out 0).trans rfl
    have zmbg : wr.cell? ⟨zmai, 1, none⟩ = some (.slice A0_1 l0_1.length c0_1) := (zmad zmah.out 1).trans rfl
    have zmbh : wr.cell? ⟨zmai, 2, none⟩ = some (.int .i64 a0_2) := (zmad zmah.out 2).trans rfl
    have zmbi : wr.cell? ⟨zmai, 3, none⟩ = some (.bool a0_3) := (zmad zmah.out 3).trans rfl
    have zmbj : wr.cell? ⟨zmai, 4, none⟩ = some (.slice A0_4 l0_4.length c0_4) := (zmad zmah.out 4).trans rfl
    have zmbk : wr.cell? ⟨zmai, 5, none⟩ = some (.int .i64 a0_5) := (zmad zmah.out 5).trans rfl
    have zmbl := zmae zmah.out 0
    have zmbm := zmae zmah.out 1
    have zmbn := zmae zmah.out 2
    have zmbo := zmae zmah.out 3
    have zmbp := zmae zmah.out 4
    have zmbq := zmae zmah.out 5
    go_wp2
    go_ret
    exact ⟨_, by first | rfl | (simp [errW_none, errW_some] <;> rfl) | (simp [*, errW_none, errW_some] <;> rfl), by (with_reducible repeat (first | apply Kd.V_alloc | apply Kd.V_drewN | apply Kd.V_drew)); exact Kd.V_mono HO_3.out (fun _ hk => hk.1), by repeat (first | (with_reducible first | exact HB.out | apply zmac | apply zmaa | apply zmab | refine below_set ?_ zmal.out) | exact HB.out)⟩

end Go.Proofs.Ytabngibognlmoaa.Q