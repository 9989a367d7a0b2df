

/- Written by a program of this session (wip/patch_print.py over the kit's print): functions of the given program as plain Lean functions, and that each call does what its function says, under no further conditions. -/
import Derived.Test.YtmpnaaegahjfkaaQx0
namespace Go.Proofs.Ytmpnaaegahjfkaa.Q
open Go.RowKit Go.Proofs.YtmpnaaegahjfkaaW.PrintWords Go.Proofs.YtmpnaaegahjfkaaW.PrintLast Go.Proofs.YtmpnaaegahjfkaaW.PrintMore
attribute [local go_sem] max2_int min2_int max_two min_two max_three min_three max_four min_four   -- for this text's walks alone
set_option linter.unusedVariables false
set_option linter.unusedSimpArgs false
attribute [local go_sem] xor_ones_u8 xor_ones_u16 xor_ones_u32 xor_ones_u64 cell_twice frozen_twice
abbrev zacaa := @World.block_lt_of_cell?
abbrev zacab := @pw_below_drewN
abbrev zacac := @below_drew1
abbrev zacad := @below_alloc
abbrev zacae := @blk_cell
abbrev zacaf := @blk_frozen
abbrev zacag := @Aside0.mk
/-! ### chain_digits: function 34 -/
def chain_digits.l0 : Nat → ByteArray → Int → Int → Option (Bool)
 | 0, _, _, _ => none
 | k + 1, x0, x5, x6 => if x6 < x5 then (if 0 ≤ x6 then (if x6 < (x0.size : Int) then (if (bt x0 x6) < 48 then (if (bt x0 x6) < 97 then (some false) else (if (bt x0 x6) > 102 then (some false) else (chain_digits.l0 k x0 x5 (wrap64 (x6 + 1))))) else (if (bt x0 x6) > 57 then (if (bt x0 x6) < 97 then (some false) else (if (bt x0 x6) > 102 then (some false) else (chain_digits.l0 k x0 x5 (wrap64 (x6 + 1))))) else (chain_digits.l0 k x0 x5 (wrap64 (x6 + 1))))) else (none)) else (none)) else (some ((x0.size : Int) == 64))
def chain_digits.f (k : Nat) (a0 : ByteArray) : Option (Bool) := chain_digits.l0 k a0 (a0.size : Int) 0
theorem chain_digits.mono_l : ∀ k, (∀ y0 y1 y2, LeO (chain_digits.l0 k y0 y1 y2) (chain_digits.l0 (k + 1) y0 y1 y2))
 | 0 => fun _ _ _ r h => by simp [chain_digits.l0] at h
 | k + 1 => by
  have ih0 := chain_digits.mono_l k
  ·intro y0 y1 y2
   unfold chain_digits.l0
   repeat' first
   | (with_reducible exact ih0 _ _ _)
   | (with_reducible exact LeO.refl _)
   | (with_reducible exact LeO.none _)
   | (with_reducible refine LeO.ite ?_ ?_)
   | (with_reducible refine LeO.bind ?_ (fun _ => ?_))
   | exact ih0 _ _ _
   | exact LeO.none _
   | refine LeO.ite ?_ ?_
   | refine LeO.bind ?_ (fun _ => ?_)
theorem chain_digits.mono : ∀ a0 k, LeO (chain_digits.f k a0) (chain_digits.f (k + 1) a0) := by
 intro a0 k
 have ih0 := chain_digits.mono_l k
 unfold chain_digits.f
 repeat' first
   | (with_reducible exact ih0 _ _ _)
   | (with_reducible exact LeO.refl _)
   | (with_reducible exact LeO.none _)
   | (with_reducible refine LeO.ite ?_ ?_)
   | (with_reducible refine LeO.bind ?_ (fun _ => ?_))
   | exact ih0 _ _ _
   | exact LeO.none _
   | refine LeO.ite ?_ ?_
   | refine LeO.bind ?_ (fun _ => ?_)
set_option maxHeartbeats 8000000 in
set_option maxRecDepth 100000 in
theorem chain_digits.calls (k : Nat) (a0 : ByteArray) (r : Bool) (w : World) (h : chain_digits.f k a0 = some r) :
  Calls Try.prog 34 #[.string a0] w fun e w' => e = .returned (.bool r) ∧ Drawn0 w w' := by
 have H : (chain_digits.l0 k a0 (a0.size : Int) 0) = some r := h
 clear h
 have H' := zacag H
 clear H
 go_enter Try.func34, Try.ntmps34
 go_wp2
 go_loopg [6] k (fun kq v6 w' => ∃ (zacah : Int), v6 = .int .i64 zacah ∧ Aside0 (chain_digits.l0 kq a0 (a0.size : Int) zacah = some r) ∧ Aside0 (kq ≤ k) ∧ Drawn0 w w')
 case atStart => exact ⟨(0), (by first | rfl | (simp; done) | (simp [*]; done)), H', ⟨Nat.le_refl _⟩, by repeat (first | exact Drawn0.refl _ | apply Drawn0.step)⟩
 case round =>
  clear H'
  obtain ⟨zacah, rfl, HA, HK1, ⟨m1, rfl⟩⟩ := hrel
  cases gk with
  | zero => exact absurd HA.out (by simp [chain_digits.l0])
  | succ k1 =>
   have H := HA.out
   clear HA
   simp only [chain_digits.l0] at H
   by_cases c2 : zacah < (a0.size : Int)
   ·rw [if_pos c2] at H
    have c2b0 : decide (zacah < (a0.size : Int)) = true := decide_eq_true c2
    clear c2
    by_cases c3 : 0 ≤ zacah
    ·rw [if_pos c3] at H
     have c3b0 : decide (0 ≤ zacah) = true := decide_eq_true c3
     clear c3
     by_cases c4 : zacah < (a0.size : Int)
     ·rw [if_pos c4] at H
      have c4b0 : decide (zacah < (a0.size : Int)) = true := decide_eq_true c4
      clear c4
      by_cases c6 : (bt a0 zacah) < 48
      ·rw [if_pos c6] at H
       have c6b0 : decide ((bt a0 zacah) < 48) = true := decide_eq_true c6
       clear c6
       by_cases c8 : (bt a0 zacah) < 97
       ·rw [if_pos c8] at H
        have c8b0 : decide ((bt a0 zacah) < 97) = true := decide_eq_true c8
        clear c8
        obtain rfl := Option.some.inj H
        have p5 : 0 ≤ (zacah : Int) := of_decide_eq_true (by first | (with_reducible assumption) | assumption)
        have q5 : zacah < (a0.size : Int) := of_decide_eq_true (by first | (with_reducible assumption) | assumption)
        have hx5 := bt_at a0 zacah
        replace p5 := eq_true p5
        replace q5 := eq_true q5
        have p7 : 0 ≤ (zacah : Int) := of_decide_eq_true (by first | (with_reducible assumption) | assumption)
        have q7 : zacah < (a0.size : Int) := of_decide_eq_true (by first | (with_reducible assumption) | assumption)
        have hx7 := bt_at a0 zacah
        replace p7 := eq_true p7
        replace q7 := eq_true q7
        go_wp2
        go_ret
        exact ⟨by first | rfl | (simp; done) | (simp [*]; done), by repeat (first | exact Drawn0.refl _ | apply Drawn0.step)⟩
       ·rw [if_neg c8] at H
        have c8b0 : decide ((bt a0 zacah) < 97) = false := decide_eq_false c8
        clear c8
        by_cases c10 : (bt a0 zacah) > 102
        ·rw [if_pos c10] at H
         have c10b0 : decide (102 < (bt a0 zacah)) = true := decide_eq_true c10
         clear c10
         obtain rfl := Option.some.inj H
         have p5 : 0 ≤ (zacah : Int) := of_decide_eq_true (by first | (with_reducible assumption) | assumption)
         have q5 : zacah < (a0.size : Int) := of_decide_eq_true (by first | (with_reducible assumption) | assumption)
         have hx5 := bt_at a0 zacah
         replace p5 := eq_true p5
         replace q5 := eq_true q5
         have p7 : 0 ≤ (zacah : Int) := of_decide_eq_true (by first | (with_reducible assumption) | assumption)
         have q7 : zacah < (a0.size : Int) := of_decide_eq_true (by first | (with_reducible assumption) | assumption)
         have hx7 := bt_at a0 zacah
         replace p7 := eq_true p7
         replace q7 := eq_true q7
         have p9 : 0 ≤ (zacah : Int) := of_decide_eq_true (by first | (with_reducible assumption) | assumption)
         have q9 : zacah < (a0.size : Int) := of_decide_eq_true (by first | (with_reducible assumption) | assumption)
         have hx9 := bt_at a0 zacah
         replace p9 := eq_true p9
         replace q9 := eq_true q9
         go_wp2
         go_ret
         exact ⟨by first | rfl | (simp; done) | (simp [*]; done), by repeat (first | exact Drawn0.refl _ | apply Drawn0.step)⟩
        ·rw [if_neg c10] at H
         have c10b0 : decide (102 < (bt a0 zacah)) = false := decide_eq_false c10
         clear c10
         have H' := zacag H
         clear H
         have p5 : 0 ≤ (zacah : Int) := of_decide_eq_true (by first | (with_reducible assumption) | assumption)
         have q5 : zacah < (a0.size : Int) := of_decide_eq_true (by first | (with_reducible assumption) | assumption)
         have hx5 := bt_at a0 zacah
         replace p5 := eq_true p5
         replace q5 := eq_true q5
         have p7 : 0 ≤ (zacah : Int) := of_decide_eq_true (by first | (with_reducible assumption) | assumption)
         have q7 : zacah < (a0.size : Int) := of_decide_eq_true (by first | (with_reducible assumption) | assumption)
         have hx7 := bt_at a0 zacah
         replace p7 := eq_true p7
         replace q7 := eq_true q7
         have p9 : 0 ≤ (zacah : Int) := of_decide_eq_true (by first | (with_reducible assumption) | assumption)
         have q9 : zacah < (a0.size : Int) := of_decide_eq_true (by first | (with_reducible assumption) | assumption)
         have hx9 := bt_at a0 zacah
         replace p9 := eq_true p9
         replace q9 := eq_true q9
         go_wp2
         go_roundg k1
         case measure => have := HK1.out; omega
         case rel => exact ⟨(wrap64 (zacah + 1)), (by first | rfl | (simp; done) | (simp [*]; done)), H', ⟨by have := HK1.out; omega⟩, by repeat (first | exact Drawn0.refl _ | apply Drawn0.step)⟩
      ·rw [if_neg c6] at H
       have c6b0 : decide ((bt a0 zacah) < 48) = false := decide_eq_false c6
       clear c6
       by_cases c12 : (bt a0 zacah) > 57
       ·rw [if_pos c12] at H
        have c12b0 : decide (57 < (bt a0 zacah)) = true := decide_eq_true c12
        clear c12
        by_cases c14 : (bt a0 zacah) < 97
        ·rw [if_pos c14] at H
         have c14b0 : decide ((bt a0 zacah) < 97) = true := decide_eq_true c14
         clear c14
         obtain rfl := Option.some.inj H
         have p5 : 0 ≤ (zacah : Int) := of_decide_eq_true (by first | (with_reducible assumption) | assumption)
         have q5 : zacah < (a0.size : Int) := of_decide_eq_true (by first | (with_reducible assumption) | assumption)
         have hx5 := bt_at a0 zacah
         replace p5 := eq_true p5
         replace q5 := eq_true q5
         have p11 : 0 ≤ (zacah : Int) := of_decide_eq_true (by first | (with_reducible assumption) | assumption)
         have q11 : zacah < (a0.size : Int) := of_decide_eq_true (by first | (with_reducible assumption) | assumption)
         have hx11 := bt_at a0 zacah
         replace p11 := eq_true p11
         replace q11 := eq_true q11
         have p13 : 0 ≤ (zacah : Int) := of_decide_eq_true (by first | (with_reducible assumption) | assumption)
         have q13 : zacah < (a0.size : Int) := of_decide_eq_true (by first | (with_reducible assumption) | assumption)
         have hx13 := bt_at a0 zacah
         replace p13 := eq_true p13
         replace q13 := eq_true q13
         go_wp2
         go_ret
         exact ⟨by first | rfl | (simp; done) | (simp [*]; done), by repeat (first | exact Drawn0.refl _ | apply Drawn0.step)⟩
        ·rw [if_neg c14] at H
         have c14b0 : decide ((bt a0 zacah) < 97) = false := decide_eq_false c14
         clear c14
         by_cases c16 : (bt a0 zacah) > 102
         ·rw [if_pos c16] at H
          have c16b0 : decide (102 < (bt a0 zacah)) = true := decide_eq_true c16
          clear c16
          obtain rfl := Option.some.inj H
          have p5 : 0 ≤ (zacah : Int) := of_decide_eq_true (by first | (with_reducible assumption) | assumption)
          have q5 : zacah < (a0.size : Int) := of_decide_eq_true (by first | (with_reducible assumption) | assumption)
          have hx5 := bt_at a0 zacah
          replace p5 := eq_true p5
          replace q5 := eq_true q5
          have p11 : 0 ≤ (zacah : Int) := of_decide_eq_true (by first | (with_reducible assumption) | assumption)
          have q11 : zacah < (a0.size : Int) := of_decide_eq_true (by first | (with_reducible assumption) | assumption)
          have hx11 := bt_at a0 zacah
          replace p11 := eq_true p11
          replace q11 := eq_true q11
          have p13 : 0 ≤ (zacah : Int) := of_decide_eq_true (by first | (with_reducible assumption) | assumption)
          have q13 : zacah < (a0.size : Int) := of_decide_eq_true (by first | (with_reducible assumption) | assumption)
          have hx13 := bt_at a0 zacah
          replace p13 := eq_true p13
          replace q13 := eq_true q13
          have p15 : 0 ≤ (zacah : Int) := of_decide_eq_true (by first | (with_reducible assumption) | assumption)
          have q15 : zacah < (a0.size : Int) := of_decide_eq_true (by first | (with_reducible assumption) | assumption)
          have hx15 := bt_at a0 zacah
          replace p15 := eq_true p15
          replace q15 := eq_true q15
          go_wp2
          go_ret
          exact ⟨by first | rfl | (simp; done) | (simp [*]; done), by repeat (first | exact Drawn0.refl _ | apply Drawn0.step)⟩
         ·rw [if_neg c16] at H
          have c16b0 : decide (102 < (bt a0 zacah)) = false := decide_eq_false c16
          clear c16
          have H' := zacag H
          clear H
          have p5 : 0 ≤ (zacah : Int) := of_decide_eq_true (by first | (with_reducible assumption) | assumption)
          have q5 : zacah < (a0.size : Int) := of_decide_eq_true (by first | (with_reducible assumption) | assumption)
          have hx5 := bt_at a0 zacah
          replace p5 := eq_true p5
          replace q5 := eq_true q5
          have p11 : 0 ≤ (zacah : Int) := of_decide_eq_true (by first | (with_reducible assumption) | assumption)
          have q11 : zacah < (a0.size : Int) := of_decide_eq_true (by first | (with_reducible assumption) | assumption)
          have hx11 := bt_at a0 zacah
          replace p11 := eq_true p11
          replace q11 := eq_true q11
          have p13 : 0 ≤ (zacah : Int) := of_decide_eq_true (by first | (with_reducible assumption) | assumption)
          have q13 : zacah < (a0.size : Int) := of_decide_eq_true (by first | (with_reducible assumption) | assumption)
          have hx13 := bt_at a0 zacah
          replace p13 := eq_true p13
          replace q13 := eq_true q13
          have p15 : 0 ≤ (zacah : Int) := of_decide_eq_true (by first | (with_reducible assumption) | assumption)
          have q15 : zacah < (a0.size : Int) := of_decide_eq_true (by first | (with_reducible assumption) | assumption)
          have hx15 := bt_at a0 zacah
          replace p15 := eq_true p15
          replace q15 := eq_true q15
          go_wp2
          go_roundg k1
          case measure => have := HK1.out; omega
          case rel => exact ⟨(wrap64 (zacah + 1)), (by first | rfl | (simp; done) | (simp [*]; done)), H', ⟨by have := HK1.out; omega⟩, by repeat (first | exact Drawn0.refl _ | apply Drawn0.step)⟩
       ·rw [if_neg c12] at H
        have c12b0 : decide (57 < (bt a0 zacah)) = false := decide_eq_false c12
        clear c12
        have H' := zacag H
        clear H
        have p5 : 0 ≤ (zacah : Int) := of_decide_eq_true (by first | (with_reducible assumption) | assumption)
        have q5 : zacah < (a0.size : Int) := of_decide_eq_true (by first | (with_reducible assumption) | assumption)
        have hx5 := bt_at a0 zacah
        replace p5 := eq_true p5
        replace q5 := eq_true q5
        have p11 : 0 ≤ (zacah : Int) := of_decide_eq_true (by first | (with_reducible assumption) | assumption)
        have q11 : zacah < (a0.size : Int) := of_decide_eq_true (by first | (with_reducible assumption) | assumption)
        have hx11 := bt_at a0 zacah
        replace p11 := eq_true p11
        replace q11 := eq_true q11
        go_wp2
        go_roundg k1
        case measure => have := HK1.out; omega
        case rel => exact ⟨(wrap64 (zacah + 1)), (by first | rfl | (simp; done) | (simp [*]; done)), H', ⟨by have := HK1.out; omega⟩, by repeat (first | exact Drawn0.refl _ | apply Drawn0.step)⟩
     ·rw [if_neg c4] at H
      exact absurd H (by simp)
    ·rw [if_neg c3] at H
     exact absurd H (by simp)
   ·rw [if_neg c2] at H
    have c2b0 : decide (zacah < (a0.size : Int)) = false := decide_eq_false c2
    clear c2
    obtain rfl := Option.some.inj H
    go_wp2
    go_ret
    exact ⟨by first | rfl | (simp; done) | (simp [*]; done), by repeat (first | exact Drawn0.refl _ | apply Drawn0.step)⟩

/-! ### chain_Pieces: function 9 -/
def chain_Pieces.l0 : Nat → Int → List (S72) → Int → Int → Option (Int × Int)
 | 0, _, _, _, _ => none
 | k + 1, x4, x10, x11, x12 => if x12 < x11 then (if 0 ≤ x12 then (if x12 < (x10.length : Int) then ((chain_digits.f k ((rd_T72 x10 x12).f0)).bind fun t103 => (if t103 = true then (if ((rd_T72 x10 x12).f1) < 1 then (some (0, 1)) else (if ((rd_T72 x10 x12).f1) > 4096 then (some (0, 1)) else (chain_Pieces.l0 k (wrap64 (x4 + ((rd_T72 x10 x12).f1))) x10 x11 (wrap64 (x12 + 1))))) else (some (0, 1)))) else (none)) else (none)) else (some (x4, 0))
def chain_Pieces.f (k : Nat) (l0 : List (S72)) : Option (Int × Int) := if (l0.length : Int) > 512 then (some (0, 1)) else (chain_Pieces.l0 k 0 l0 (l0.length : Int) 0)
theorem chain_Pieces.mono_l : ∀ k, (∀ y0 y1 y2 y3, LeO (chain_Pieces.l0 k y0 y1 y2 y3) (chain_Pieces.l0 (k + 1) y0 y1 y2 y3))
 | 0 => fun _ _ _ _ r h => by simp [chain_Pieces.l0] at h
 | k + 1 => by
  have ih0 := chain_Pieces.mono_l k
  ·intro y0 y1 y2 y3
   unfold chain_Pieces.l0
   repeat' first
   | (with_reducible exact ih0 _ _ _ _)
   | (with_reducible exact chain_digits.mono _ _)
   | (with_reducible exact LeO.refl _)
   | (with_reducible exact LeO.none _)
   | (with_reducible refine LeO.ite ?_ ?_)
   | (with_reducible refine LeO.bind ?_ (fun _ => ?_))
   | exact ih0 _ _ _ _
   | exact chain_digits.mono _ _
   | exact LeO.none _
   | refine LeO.ite ?_ ?_
   | refine LeO.bind ?_ (fun _ => ?_)
theorem chain_Pieces.mono : ∀ a0 k, LeO (chain_Pieces.f k a0) (chain_Pieces.f (k + 1) a0) := by
 intro a0 k
 have ih0 := chain_Pieces.mono_l k
 unfold chain_Pieces.f
 repeat' first
   | (with_reducible exact ih0 _ _ _ _)
   | (with_reducible exact chain_digits.mono _ _)
   | (with_reducible exact LeO.refl _)
   | (with_reducible exact LeO.none _)
   | (with_reducible refine LeO.ite ?_ ?_)
   | (with_reducible refine LeO.bind ?_ (fun _ => ?_))
   | exact ih0 _ _ _ _
   | exact chain_digits.mono _ _
   | exact LeO.none _
   | refine LeO.ite ?_ ?_
   | refine LeO.bind ?_ (fun _ => ?_)
set_option maxHeartbeats 8000000 in
set_option maxRecDepth 100000 in
theorem chain_Pieces.calls (k : Nat) (A0 : Option Addr) (c0 : Nat) (l0 : List (S72)) (r1 : Int) (r2 : Int) (w : World) (hr0 : Kd.C k72 w A0 l0.length l0) (hc0 : l0.length ≤ c0) (h : chain_Pieces.f k l0 = some (r1, r2)) :
  Calls Try.prog 9 #[.slice A0 l0.length c0] w fun e w' => e = .returned (.tuple #[.int .i64 r1, .int .i64 r2]) ∧ Below w.heap.size w w' := by
 have hu72 := Try.underlying72
 have HR0 := zacag hr0
 have HC0 := zacag hc0
 clear hr0 hc0
 have HB := zacag (Below.refl w.heap.size w)
 have H : (if (l0.length : Int) > 512 then (some (0, 1)) else (chain_Pieces.l0 k 0 l0 (l0.length : Int) 0)) = some (r1, r2) := h
 clear h
 by_cases c2 : (l0.length : Int) > 512
 ·rw [if_pos c2] at H
  have c2b0 : decide (512 < (l0.length : Int)) = true := decide_eq_true c2
  have c2b1 : decide (512 < l0.length) = true := decide_eq_true (by omega)
  clear c2
  simp only [Option.some.injEq, Prod.mk.injEq] at H
  obtain ⟨rfl, rfl⟩ := H
  go_enter Try.func9, Try.ntmps9
  go_wp2
  go_ret2
  exact ⟨by first | rfl | (simp [errW_none, errW_some] <;> rfl) | (simp [*, errW_none, errW_some] <;> rfl), zh0 HB⟩
 ·rw [if_neg c2] at H
  have c2b0 : decide (512 < (l0.length : Int)) = false := decide_eq_false c2
  have c2b1 : decide (512 < l0.length) = false := decide_eq_false (by omega)
  clear c2
  have H' := zacag H
  clear H
  go_enter Try.func9, Try.ntmps9
  go_wp2
  go_loopg [4, 12] k (fun kq v4 v12 w' => ∃ (zacam : Int) (zacai : Int), v4 = .int .i64 zacam ∧ v12 = .int .i64 zacai ∧ Aside0 (chain_Pieces.l0 kq zacam l0 (l0.length : Int) zacai = some (r1, r2)) ∧ Aside0 (kq ≤ k) ∧ Aside0 (Below w.heap.size w w'))
  case atStart => exact ⟨(0), (0), (by first | rfl | (simp; done) | (simp [*]; done)), (by first | rfl | (simp; done) | (simp [*]; done)), H', ⟨Nat.le_refl _⟩, ⟨zh0 HB⟩⟩
  case round =>
   clear H'
   try clear c2
   try clear c2b0
   try clear c2b1
   try clear p2
   obtain ⟨zacam, zacai, rfl, rfl, HA, HK1, HB⟩ := hrel
   cases gk with
   | zero => exact absurd HA.out (by simp [chain_Pieces.l0])
   | succ k1 =>
    have H := HA.out
    clear HA
    simp only [chain_Pieces.l0] at H
    by_cases c3 : zacai < (l0.length : Int)
    ·rw [if_pos c3] at H
     have c3b0 : decide (zacai < (l0.length : Int)) = true := decide_eq_true c3
     clear c3
     by_cases c4 : 0 ≤ zacai
     ·rw [if_pos c4] at H
      have c4b0 : decide (0 ≤ zacai) = true := decide_eq_true c4
      clear c4
      by_cases c5 : zacai < (l0.length : Int)
      ·rw [if_pos c5] at H
       have c5b0 : decide (zacai < (l0.length : Int)) = true := decide_eq_true c5
       clear c5
       replace H := Option.bind_eq_some_iff.mp H
       obtain ⟨t103, A60, H⟩ := H
       replace H : (if t103 = true then (if ((rd_T72 l0 zacai).f1) < 1 then (some (0, 1)) else (if ((rd_T72 l0 zacai).f1) > 4096 then (some (0, 1)) else (chain_Pieces.l0 k1 (wrap64 (zacam + ((rd_T72 l0 zacai).f1))) l0 (l0.length : Int) (wrap64 (zacai + 1))))) else (some (0, 1))) = some (r1, r2) := H
       have A6 := zacag A60
       clear A60
       by_cases c7 : t103 = true
       ·subst c7
        have H1 : (if ((rd_T72 l0 zacai).f1) < 1 then (some (0, 1)) else (if ((rd_T72 l0 zacai).f1) > 4096 then (some (0, 1)) else (chain_Pieces.l0 k1 (wrap64 (zacam + ((rd_T72 l0 zacai).f1))) l0 (l0.length : Int) (wrap64 (zacai + 1))))) = some (r1, r2) := by rw [if_pos rfl] at H; exact H
        clear H
        have H := H1
        clear H1
        by_cases c8 : ((rd_T72 l0 zacai).f1) < 1
        ·rw [if_pos c8] at H
         have c8b0 : decide (((rd_T72 l0 zacai).f1) < 1) = true := decide_eq_true c8
         clear c8
         simp only [Option.some.injEq, Prod.mk.injEq] at H
         obtain ⟨rfl, rfl⟩ := H
         have p101 : 0 ≤ (zacai : Int) := of_decide_eq_true (by first | (with_reducible assumption) | assumption)
         have q101 : zacai < (l0.length : Int) := of_decide_eq_true (by first | (with_reducible assumption) | assumption)
         obtain ⟨ad101, e101, hx101_0, hx101_1⟩ := at_T72 HR0.out zacai p101 q101
         cases e101
         replace hx101_0 := (HB.out.cell (zacaa w _ hx101_0)).trans hx101_0
         replace hx101_1 := (HB.out.cell (zacaa w _ hx101_1)).trans hx101_1
         replace p101 := eq_true p101
         replace q101 := eq_true q101
         go_wp2_with (first | ((with_reducible refine gate_dst (N := 6) rfl ?_); refine box_event ?hg (N := 6) ?hd (cs := #[.string (⟨#[]⟩ : ByteArray), .int .i64 0]) (t := 72) ?hr ?_; (case hd => rfl); (case hg => rfl); (case hr => first | (go_simp; done) | (go_simp; rfl)); intro zacaj hg w9 hbox hb; have n0_ := zacag (below_step (zh0 HB) hb); have n1_ := zacag (hbox); have n2_ := zns hg (zh0 HB); have n3_ := zns hg (zh0 HB); clear HB; have HB := n0_; have zacak := n1_; have zacan := n2_; have zacal := n3_; clear n0_ n1_ n2_ n3_; clear hb hbox hg; have zacao : w9.cell? ⟨zacaj, 0, none⟩ = some (.string (⟨#[]⟩ : ByteArray)) := (zacae zacak.out 0).trans rfl; have zacap : w9.cell? ⟨zacaj, 1, none⟩ = some (.int .i64 0) := (zacae zacak.out 1).trans rfl; have zacaq := zacaf zacak.out 0; have zacar := zacaf zacak.out 1) | ((with_reducible refine gate_callee (f := 34) rfl ?_); refine goesL_ (some 18) rfl rfl Try.func34 (by kernel_rfl) rfl #[.string ((rd_T72 l0 zacai).f0)] rfl (by (try simp only [List.map_toArray, List.map_cons, List.map_nil]); first | done | rfl) ?_; (with_reducible refine (chain_digits.calls k1 ((rd_T72 l0 zacai).f0) true _ A6.out).mono ?_); rintro e w' ⟨rfl, ⟨nd, rfl⟩⟩; refine ⟨_, rfl, ?_⟩))
         go_ret2
         exact ⟨by first | rfl | (simp [errW_none, errW_some] <;> rfl) | (simp [*, errW_none, errW_some] <;> rfl), zh1 HB zacal⟩
        ·rw [if_neg c8] at H
         have c8b0 : decide (((rd_T72 l0 zacai).f1) < 1) = false := decide_eq_false c8
         clear c8
         by_cases c11 : ((rd_T72 l0 zacai).f1) > 4096
         ·rw [if_pos c11] at H
          have c11b0 : decide (4096 < ((rd_T72 l0 zacai).f1)) = true := decide_eq_true c11
          clear c11
          simp only [Option.some.injEq, Prod.mk.injEq] at H
          obtain ⟨rfl, rfl⟩ := H
          have p101 : 0 ≤ (zacai : Int) := of_decide_eq_true (by first | (with_reducible assumption) | assumption)
          have q101 : zacai < (l0.length : Int) := of_decide_eq_true (by first | (with_reducible assumption) | assumption)
          obtain ⟨ad101, e101, hx101_0, hx101_1⟩ := at_T72 HR0.out zacai p101 q101
          cases e101
          replace hx101_0 := (HB.out.cell (zacaa w _ hx101_0)).trans hx101_0
          replace hx101_1 := (HB.out.cell (zacaa w _ hx101_1)).trans hx101_1
          replace p101 := eq_true p101
          replace q101 := eq_true q101
          go_wp2_with (first | ((with_reducible refine gate_dst (N := 6) rfl ?_); refine box_event ?hg (N := 6) ?hd (cs := #[.string (⟨#[]⟩ : ByteArray), .int .i64 0]) (t := 72) ?hr ?_; (case hd => rfl); (case hg => rfl); (case hr => first | (go_simp; done) | (go_simp; rfl)); intro zacaj hg w12 hbox hb; have n0_ := zacag (below_step (zh0 HB) hb); have n1_ := zacag (hbox); have n2_ := zns hg (zh0 HB); have n3_ := zns hg (zh0 HB); clear HB; have HB := n0_; have zacak := n1_; have zacan := n2_; have zacal := n3_; clear n0_ n1_ n2_ n3_; clear hb hbox hg; have zacas : w12.cell? ⟨zacaj, 0, none⟩ = some (.string (⟨#[]⟩ : ByteArray)) := (zacae zacak.out 0).trans rfl; have zacat : w12.cell? ⟨zacaj, 1, none⟩ = some (.int .i64 0) := (zacae zacak.out 1).trans rfl; have zacau := zacaf zacak.out 0; have zacav := zacaf zacak.out 1) | ((with_reducible refine gate_callee (f := 34) rfl ?_); refine goesL_ (some 18) rfl rfl Try.func34 (by kernel_rfl) rfl #[.string ((rd_T72 l0 zacai).f0)] rfl (by (try simp only [List.map_toArray, List.map_cons, List.map_nil]); first | done | rfl) ?_; (with_reducible refine (chain_digits.calls k1 ((rd_T72 l0 zacai).f0) true _ A6.out).mono ?_); rintro e w' ⟨rfl, ⟨nd, rfl⟩⟩; refine ⟨_, rfl, ?_⟩))
          go_ret2
          exact ⟨by first | rfl | (simp [errW_none, errW_some] <;> rfl) | (simp [*, errW_none, errW_some] <;> rfl), zh1 HB zacal⟩
         ·rw [if_neg c11] at H
          have c11b0 : decide (4096 < ((rd_T72 l0 zacai).f1)) = false := decide_eq_false c11
          clear c11
          have H' := zacag H
          clear H
          have p101 : 0 ≤ (zacai : Int) := of_decide_eq_true (by first | (with_reducible assumption) | assumption)
          have q101 : zacai < (l0.length : Int) := of_decide_eq_true (by first | (with_reducible assumption) | assumption)
          obtain ⟨ad101, e101, hx101_0, hx101_1⟩ := at_T72 HR0.out zacai p101 q101
          cases e101
          replace hx101_0 := (HB.out.cell (zacaa w _ hx101_0)).trans hx101_0
          replace hx101_1 := (HB.out.cell (zacaa w _ hx101_1)).trans hx101_1
          replace p101 := eq_true p101
          replace q101 := eq_true q101
          go_wp2_with (first | ((with_reducible refine gate_dst (N := 6) rfl ?_); refine box_event ?hg (N := 6) ?hd (cs := #[.string (⟨#[]⟩ : ByteArray), .int .i64 0]) (t := 72) ?hr ?_; (case hd => rfl); (case hg => rfl); (case hr => first | (go_simp; done) | (go_simp; rfl)); intro zacaj hg w14 hbox hb; have n0_ := zacag (below_step (zh0 HB) hb); have n1_ := zacag (hbox); have n2_ := zns hg (zh0 HB); have n3_ := zns hg (zh0 HB); clear HB; have HB := n0_; have zacak := n1_; have zacan := n2_; have zacal := n3_; clear n0_ n1_ n2_ n3_; clear hb hbox hg; have zacaw : w14.cell? ⟨zacaj, 0, none⟩ = some (.string (⟨#[]⟩ : ByteArray)) := (zacae zacak.out 0).trans rfl; have zacax : w14.cell? ⟨zacaj, 1, none⟩ = some (.int .i64 0) := (zacae zacak.out 1).trans rfl; have zacay := zacaf zacak.out 0; have zacaz := zacaf zacak.out 1) | ((with_reducible refine gate_callee (f := 34) rfl ?_); refine goesL_ (some 18) rfl rfl Try.func34 (by kernel_rfl) rfl #[.string ((rd_T72 l0 zacai).f0)] rfl (by (try simp only [List.map_toArray, List.map_cons, List.map_nil]); first | done | rfl) ?_; (with_reducible refine (chain_digits.calls k1 ((rd_T72 l0 zacai).f0) true _ A6.out).mono ?_); rintro e w' ⟨rfl, ⟨nd, rfl⟩⟩; refine ⟨_, rfl, ?_⟩))
          go_roundg k1
          case measure => have := HK1.out; omega
          case rel => exact ⟨(wrap64 (zacam + ((rd_T72 l0 zacai).f1))), (wrap64 (zacai + 1)), (by first | rfl | (simp; done) | (simp [*]; done)), (by first | rfl | (simp; done) | (simp [*]; done)), H', ⟨by have := HK1.out; omega⟩, ⟨zh1 HB zacal⟩⟩
       ·replace c7 := Bool.eq_false_iff.mpr c7
        subst c7
        have H1 : (some (0, 1)) = some (r1, r2) := by rw [if_neg (show ¬ (false = true) by decide)] at H; exact H
        clear H
        have H := H1
        clear H1
        simp only [Option.some.injEq, Prod.mk.injEq] at H
        obtain ⟨rfl, rfl⟩ := H
        have p101 : 0 ≤ (zacai : Int) := of_decide_eq_true (by first | (with_reducible assumption) | assumption)
        have q101 : zacai < (l0.length : Int) := of_decide_eq_true (by first | (with_reducible assumption) | assumption)
        obtain ⟨ad101, e101, hx101_0, hx101_1⟩ := at_T72 HR0.out zacai p101 q101
        cases e101
        replace hx101_0 := (HB.out.cell (zacaa w _ hx101_0)).trans hx101_0
        replace hx101_1 := (HB.out.cell (zacaa w _ hx101_1)).trans hx101_1
        replace p101 := eq_true p101
        replace q101 := eq_true q101
        go_wp2_with (first | ((with_reducible refine gate_dst (N := 6) rfl ?_); refine box_event ?hg (N := 6) ?hd (cs := #[.string (⟨#[]⟩ : ByteArray), .int .i64 0]) (t := 72) ?hr ?_; (case hd => rfl); (case hg => rfl); (case hr => first | (go_simp; done) | (go_simp; rfl)); intro zacaj hg w16 hbox hb; have n0_ := zacag (below_step (zh0 HB) hb); have n1_ := zacag (hbox); have n2_ := zns hg (zh0 HB); have n3_ := zns hg (zh0 HB); clear HB; have HB := n0_; have zacak := n1_; have zacan := n2_; have zacal := n3_; clear n0_ n1_ n2_ n3_; clear hb hbox hg; have zacba : w16.cell? ⟨zacaj, 0, none⟩ = some (.string (⟨#[]⟩ : ByteArray)) := (zacae zacak.out 0).trans rfl; have zacbb : w16.cell? ⟨zacaj, 1, none⟩ = some (.int .i64 0) := (zacae zacak.out 1).trans rfl; have zacbc := zacaf zacak.out 0; have zacbd := zacaf zacak.out 1) | ((with_reducible refine gate_callee (f := 34) rfl ?_); refine goesL_ (some 18) rfl rfl Try.func34 (by kernel_rfl) rfl #[.string ((rd_T72 l0 zacai).f0)] rfl (by (try simp only [List.map_toArray, List.map_cons, List.map_nil]); first | done | rfl) ?_; (with_reducible refine (chain_digits.calls k1 ((rd_T72 l0 zacai).f0) false _ A6.out).mono ?_); rintro e w' ⟨rfl, ⟨nd, rfl⟩⟩; refine ⟨_, rfl, ?_⟩))
        go_ret2
        exact ⟨by first | rfl | (simp [errW_none, errW_some] <;> rfl) | (simp [*, errW_none, errW_some] <;> rfl), zh1 HB zacal⟩
      ·rw [if_neg c5] at H
       exact absurd H (by simp)
     ·rw [if_neg c4] at H
      exact absurd H (by simp)
    ·rw [if_neg c3] at H
     have c3b0 : decide (zacai < (l0.length : Int)) = false := decide_eq_false c3
     clear c3
     simp only [Option.some.injEq, Prod.mk.injEq] at H
     obtain ⟨rfl, rfl⟩ := H
     go_wp2
     go_ret2
     exact ⟨by first | rfl | (simp [errW_none, errW_some] <;> rfl) | (simp [*, errW_none, errW_some] <;> rfl), zh0 HB⟩

end Go.Proofs.Ytmpnaaegahjfkaa.Q