

/- Written by a program of this session (wip/patch_print.py over the kit's print): functions of the given program as plain Lean functions, and that each call does what its function says, under no further conditions. -/
import Derived.Test.YtmpnaaegahjfkaaQx0
namespace Go.Proofs.Ytmpnaaegahjfkaa.Q
open Go.RowKit Go.Proofs.YtmpnaaegahjfkaaW.PrintWords Go.Proofs.YtmpnaaegahjfkaaW.PrintLast Go.Proofs.YtmpnaaegahjfkaaW.PrintMore
attribute [local go_sem] max2_int min2_int max_two min_two max_three min_three max_four min_four   -- for this text's walks alone
set_option linter.unusedVariables false
set_option linter.unusedSimpArgs false
attribute [local go_sem] xor_ones_u8 xor_ones_u16 xor_ones_u32 xor_ones_u64 cell_twice frozen_twice
abbrev zadaa := @World.block_lt_of_cell?
abbrev zadab := @pw_below_drewN
abbrev zadac := @below_drew1
abbrev zadad := @below_alloc
abbrev zadae := @Aside0.mk
/-! ### stowageref03_Unhex: function 57 -/
mutual
def stowageref03_Unhex.l0 : Nat → ByteArray → List Int → Int → Int → Option (ByteArray × Int)
 | 0, _, _, _, _ => none
 | k + 1, x0, x4, x5, x6 => if x6 < (x0.size : Int) then (if 0 ≤ x6 then (if (bt x0 x6) ≥ 48 then (stowageref03_Unhex.j1 k x0 x4 x5 x6 (-1) (decide ((bt x0 x6) ≤ 57))) else (stowageref03_Unhex.j1 k x0 x4 x5 x6 (-1) false)) else (none)) else (some (strOfNums x4, 0))
def stowageref03_Unhex.j1 : Nat → ByteArray → List Int → Int → Int → Int → Bool → Option (ByteArray × Int)
 | 0, _, _, _, _, _, _ => none
 | k + 1, x0, x4, x5, x6, x7, x27 => if x27 = true then (if 0 ≤ x6 then (if x6 < (x0.size : Int) then (stowageref03_Unhex.j2 k x0 x4 x5 x6 (wrap64 ((wrap64 (bt x0 x6)) - 48))) else (none)) else (none)) else (stowageref03_Unhex.j2 k x0 x4 x5 x6 x7)
def stowageref03_Unhex.j2 : Nat → ByteArray → List Int → Int → Int → Int → Option (ByteArray × Int)
 | 0, _, _, _, _, _ => none
 | k + 1, x0, x4, x5, x6, x7 => if 0 ≤ x6 then (if x6 < (x0.size : Int) then (if (bt x0 x6) ≥ 97 then (stowageref03_Unhex.j3 k x0 x4 x5 x6 x7 (decide ((bt x0 x6) ≤ 102))) else (stowageref03_Unhex.j3 k x0 x4 x5 x6 x7 false)) else (none)) else (none)
def stowageref03_Unhex.j3 : Nat → ByteArray → List Int → Int → Int → Int → Bool → Option (ByteArray × Int)
 | 0, _, _, _, _, _, _ => none
 | k + 1, x0, x4, x5, x6, x7, x42 => if x42 = true then (if 0 ≤ x6 then (if x6 < (x0.size : Int) then (stowageref03_Unhex.j4 k x0 x4 x5 x6 (wrap64 ((wrap64 (bt x0 x6)) - 87))) else (none)) else (none)) else (stowageref03_Unhex.j4 k x0 x4 x5 x6 x7)
def stowageref03_Unhex.j4 : Nat → ByteArray → List Int → Int → Int → Int → Option (ByteArray × Int)
 | 0, _, _, _, _, _ => none
 | k + 1, x0, x4, x5, x6, x7 => if x7 < 0 then (some ((⟨#[]⟩ : ByteArray), 3)) else (if (Int.tmod x6 2) = 1 then (if x4.length < 140737488355328 then (stowageref03_Unhex.l0 k x0 (x4 ++ [(wrap64 ((wrap64 ((Int.tmod x5 16) * 16)) + x7)) % 256]) (wrap64 ((wrap64 ((Int.tmod x5 16) * 16)) + x7)) (wrap64 (x6 + 1))) else (none)) else (stowageref03_Unhex.l0 k x0 x4 (wrap64 ((wrap64 ((Int.tmod x5 16) * 16)) + x7)) (wrap64 (x6 + 1))))
end
def stowageref03_Unhex.f (k : Nat) (a0 : ByteArray) : Option (ByteArray × Int) := if ((a0.size : Int) % 2) = 0 then (stowageref03_Unhex.l0 k a0 ([] : List Int) 0 0) else (some ((⟨#[]⟩ : ByteArray), 3))
set_option maxHeartbeats 8000000 in
set_option maxRecDepth 100000 in
theorem stowageref03_Unhex.calls (k : Nat) (a0 : ByteArray) (r1 : ByteArray) (r2 : Int) (w : World) (h : stowageref03_Unhex.f k a0 = some (r1, r2)) :
  Calls Try.prog 57 #[.string a0] w fun e w' => e = .returned (.tuple #[.string r1, .int .i64 r2]) ∧ Below w.heap.size w w' := by
 have HB := zadae (Below.refl w.heap.size w)
 have H : (if ((a0.size : Int) % 2) = 0 then (stowageref03_Unhex.l0 k a0 ([] : List Int) 0 0) else (some ((⟨#[]⟩ : ByteArray), 3))) = some (r1, r2) := h
 clear h
 by_cases c2 : ((a0.size : Int) % 2) = 0
 ·rw [if_pos c2] at H
  have c2b0 : (((a0.size : Int) % 2) == 0) = true := beq_iff_eq.mpr c2
  have c2b1 : (((a0.size : Int) % 2) != 0) = false := bne_eq_false_iff_eq.mpr c2
  clear c2
  have H' := zadae H
  clear H
  go_enter Try.func57, Try.ntmps57
  go_wp2
  go_loopg [4, 5, 6] k (fun kq v4 v5 v6 w' => ∃ (zadah : List Int) (zadaf : Int) (zadag : Int), v5 = .int .i64 zadaf ∧ v6 = .int .i64 zadag ∧ Aside0 (stowageref03_Unhex.l0 kq a0 zadah zadaf zadag = some (r1, r2)) ∧ Aside0 (kq ≤ k) ∧ Aside0 (Kd.R (Kd.int .u8) 5 w' w.heap.size (fun _ => True) v4 zadah) ∧ Aside0 (Below w.heap.size w w'))
  case atStart => exact ⟨(([] : List Int)), (0), (0), (by first | rfl | (simp; done) | (simp [*]; done)), (by first | rfl | (simp; done) | (simp [*]; done)), H', ⟨Nat.le_refl _⟩, ⟨by first | exact Kd.R_nil _ _ _ _ _ | exact Kd.N_nil _ _ _ _ _ | exact Kd.V_nil _ _ _ _ _ | exact Kd.Q_nil _ _ _ _ _ | exact Kd.S_nil _ _ _ _ _⟩, ⟨zh0 HB⟩⟩
  case round =>
   clear H'
   try clear c2
   try clear c2b0
   try clear c2b1
   try clear p2
   obtain ⟨zadah, zadaf, zadag, rfl, rfl, HA, HK1, HO_4, HB⟩ := hrel
   cases gk with
   | zero => exact absurd HA.out (by simp [stowageref03_Unhex.l0])
   | succ k1 =>
    have H := HA.out
    clear HA
    simp only [stowageref03_Unhex.l0] at H
    by_cases c3 : zadag < (a0.size : Int)
    ·rw [if_pos c3] at H
     have c3b0 : decide (zadag < (a0.size : Int)) = true := decide_eq_true c3
     clear c3
     have HC4 := zadae H
     clear H
     go_upto_region 9 with (fail)
     go_cut [27] (fun v27 wc => ∃ (kq : Nat) (zadal : Bool), v27 = .bool zadal ∧ Aside0 (stowageref03_Unhex.j1 kq a0 zadah zadaf zadag (-1) zadal = some (r1, r2)) ∧ Aside0 (kq ≤ k1) ∧ Aside0 (Kd.R (Kd.int .u8) 5 wc w.heap.size (fun _ => True) u4 zadah) ∧ Aside0 (Below w.heap.size w wc))
     case first =>
      have H := HC4.out
      clear HC4
      by_cases c5 : 0 ≤ zadag
      ·rw [if_pos c5] at H
       have c5b0 : decide (0 ≤ zadag) = true := decide_eq_true c5
       clear c5
       (first | rw [c5b0] | (simp only [i64_w, i32_w]; rw [c5b0]) | skip)
       by_cases c7 : (bt a0 zadag) ≥ 48
       ·rw [if_pos c7] at H
        have c7b0 : decide (48 ≤ (bt a0 zadag)) = true := decide_eq_true c7
        clear c7
        have H' := zadae H
        clear H
        have p6 : 0 ≤ (zadag : Int) := of_decide_eq_true (by first | (with_reducible assumption) | assumption)
        have q6 : zadag < (a0.size : Int) := of_decide_eq_true (by first | (with_reducible assumption) | assumption)
        have hx6 := bt_at a0 zadag
        replace p6 := eq_true p6
        replace q6 := eq_true q6
        have p8 : 0 ≤ (zadag : Int) := of_decide_eq_true (by first | (with_reducible assumption) | assumption)
        have q8 : zadag < (a0.size : Int) := of_decide_eq_true (by first | (with_reducible assumption) | assumption)
        have hx8 := bt_at a0 zadag
        replace p8 := eq_true p8
        replace q8 := eq_true q8
        go_wp2
        go_meet
        case rel => exact ⟨_, (decide ((bt a0 zadag) ≤ 57)), (by first | rfl | (simp; done) | (simp [*]; done)), H', ⟨by have := HK1.out; first | omega | exact Nat.le_refl _⟩, ⟨zrk HO_4⟩, ⟨zh0 HB⟩⟩
       ·rw [if_neg c7] at H
        have c7b0 : decide (48 ≤ (bt a0 zadag)) = false := decide_eq_false c7
        clear c7
        have H' := zadae H
        clear H
        have p6 : 0 ≤ (zadag : Int) := of_decide_eq_true (by first | (with_reducible assumption) | assumption)
        have q6 : zadag < (a0.size : Int) := of_decide_eq_true (by first | (with_reducible assumption) | assumption)
        have hx6 := bt_at a0 zadag
        replace p6 := eq_true p6
        replace q6 := eq_true q6
        go_wp2
        go_meet
        case rel => exact ⟨_, (false), (by first | rfl | (simp; done) | (simp [*]; done)), H', ⟨by have := HK1.out; first | omega | exact Nat.le_refl _⟩, ⟨zrk HO_4⟩, ⟨zh0 HB⟩⟩
      ·rw [if_neg c5] at H
       exact absurd H (by simp)
     case rest =>
      clear HC4
      try clear c2
      try clear c2b0
      try clear c2b1
      try clear p2
      try clear c3
      try clear c3b0
      try clear c5
      try clear c5b0
      try clear p6
      try clear q6
      try clear hx6
      try clear c7
      try clear c7b0
      try clear p8
      try clear q8
      try clear hx8
      try clear p2
      try clear p6
      try clear p8
      try clear q6
      try clear q8
      obtain ⟨kq, zadal, rfl, HA, HJ3, HO_4, HB⟩ := hcut
      cases kq with
      | zero => exact absurd HA.out (by simp [stowageref03_Unhex.j1])
      | succ kj3 =>
       have H := HA.out
       clear HA
       simp only [stowageref03_Unhex.j1] at H
       have HC9 := zadae H
       clear H
       go_upto_if 27 with (fail)
       go_cut [7] (fun v7 wc => ∃ (kq : Nat) (zadak : Int), v7 = .int .i64 zadak ∧ Aside0 (stowageref03_Unhex.j2 kq a0 zadah zadaf zadag zadak = some (r1, r2)) ∧ Aside0 (kq ≤ kj3) ∧ Aside0 (Kd.R (Kd.int .u8) 5 wc w.heap.size (fun _ => True) u4 zadah) ∧ Aside0 (Below w.heap.size w wc))
       case first =>
        have H := HC9.out
        clear HC9
        by_cases c10 : zadal = true
        ·subst c10
         have H1 : (if 0 ≤ zadag then (if zadag < (a0.size : Int) then (stowageref03_Unhex.j2 kj3 a0 zadah zadaf zadag (wrap64 ((wrap64 (bt a0 zadag)) - 48))) else (none)) else (none)) = some (r1, r2) := by rw [if_pos rfl] at H; exact H
         clear H
         have H := H1
         clear H1
         by_cases c11 : 0 ≤ zadag
         ·rw [if_pos c11] at H
          have c11b0 : decide (0 ≤ zadag) = true := decide_eq_true c11
          clear c11
          (first | rw [c11b0] | (simp only [i64_w, i32_w]; rw [c11b0]) | skip)
          by_cases c12 : zadag < (a0.size : Int)
          ·rw [if_pos c12] at H
           have c12b0 : decide (zadag < (a0.size : Int)) = true := decide_eq_true c12
           clear c12
           have H' := zadae H
           clear H
           have p13 : 0 ≤ (zadag : Int) := of_decide_eq_true (by first | (with_reducible assumption) | assumption)
           have q13 : zadag < (a0.size : Int) := of_decide_eq_true (by first | (with_reducible assumption) | assumption)
           have hx13 := bt_at a0 zadag
           replace p13 := eq_true p13
           replace q13 := eq_true q13
           go_wp2
           go_meet
           case rel => exact ⟨_, (wrap64 ((wrap64 (bt a0 zadag)) - 48)), (by first | rfl | (simp; done) | (simp [*]; done)), H', ⟨by have := HK1.out; have := HJ3.out; first | omega | exact Nat.le_refl _⟩, ⟨zrk HO_4⟩, ⟨zh0 HB⟩⟩
          ·rw [if_neg c12] at H
           exact absurd H (by simp)
         ·rw [if_neg c11] at H
          exact absurd H (by simp)
        ·replace c10 := Bool.eq_false_iff.mpr c10
         subst c10
         have H1 : (stowageref03_Unhex.j2 kj3 a0 zadah zadaf zadag (-1)) = some (r1, r2) := by rw [if_neg (show ¬ (false = true) by decide)] at H; exact H
         clear H
         have H := H1
         clear H1
         have H' := zadae H
         clear H
         go_wp2
         go_meet
         case rel => exact ⟨_, ((-1)), (by first | rfl | (simp; done) | (simp [*]; done)), H', ⟨by have := HK1.out; have := HJ3.out; first | omega | exact Nat.le_refl _⟩, ⟨zrk HO_4⟩, ⟨zh0 HB⟩⟩
       case rest =>
        clear HC9
        try clear c1
        try clear p1
        try clear q1
        try clear hx1
        try clear c2
        try clear c2b0
        try clear c2b1
        try clear p2
        try clear c3
        try clear c3b0
        try clear c5
        try clear c5b0
        try clear p6
        try clear q6
        try clear hx6
        try clear c7
        try clear c7b0
        try clear p8
        try clear q8
        try clear hx8
        try clear c10
        try clear c11
        try clear c11b0
        try clear c12
        try clear c12b0
        try clear p13
        try clear q13
        try clear hx13
        try clear p13
        try clear p2
        try clear p6
        try clear p8
        try clear q13
        try clear q6
        try clear q8
        obtain ⟨kq, zadak, rfl, HA, HJ8, HO_4, HB⟩ := hcut
        cases kq with
        | zero => exact absurd HA.out (by simp [stowageref03_Unhex.j2])
        | succ kj8 =>
         have H := HA.out
         clear HA
         simp only [stowageref03_Unhex.j2] at H
         have HC14 := zadae H
         clear H
         go_upto_region 11 with (fail)
         go_cut [42] (fun v42 wc => ∃ (kq : Nat) (zadaj : Bool), v42 = .bool zadaj ∧ Aside0 (stowageref03_Unhex.j3 kq a0 zadah zadaf zadag zadak zadaj = some (r1, r2)) ∧ Aside0 (kq ≤ kj8) ∧ Aside0 (Kd.R (Kd.int .u8) 5 wc w.heap.size (fun _ => True) u4 zadah) ∧ Aside0 (Below w.heap.size w wc))
         case first =>
          have H := HC14.out
          clear HC14
          by_cases c15 : 0 ≤ zadag
          ·rw [if_pos c15] at H
           have c15b0 : decide (0 ≤ zadag) = true := decide_eq_true c15
           clear c15
           (first | rw [c15b0] | (simp only [i64_w, i32_w]; rw [c15b0]) | skip)
           by_cases c16 : zadag < (a0.size : Int)
           ·rw [if_pos c16] at H
            have c16b0 : decide (zadag < (a0.size : Int)) = true := decide_eq_true c16
            clear c16
            by_cases c18 : (bt a0 zadag) ≥ 97
            ·rw [if_pos c18] at H
             have c18b0 : decide (97 ≤ (bt a0 zadag)) = true := decide_eq_true c18
             clear c18
             have H' := zadae H
             clear H
             have p17 : 0 ≤ (zadag : Int) := of_decide_eq_true (by first | (with_reducible assumption) | assumption)
             have q17 : zadag < (a0.size : Int) := of_decide_eq_true (by first | (with_reducible assumption) | assumption)
             have hx17 := bt_at a0 zadag
             replace p17 := eq_true p17
             replace q17 := eq_true q17
             have p19 : 0 ≤ (zadag : Int) := of_decide_eq_true (by first | (with_reducible assumption) | assumption)
             have q19 : zadag < (a0.size : Int) := of_decide_eq_true (by first | (with_reducible assumption) | assumption)
             have hx19 := bt_at a0 zadag
             replace p19 := eq_true p19
             replace q19 := eq_true q19
             go_wp2
             go_meet
             case rel => exact ⟨_, (decide ((bt a0 zadag) ≤ 102)), (by first | rfl | (simp; done) | (simp [*]; done)), H', ⟨by have := HK1.out; have := HJ3.out; have := HJ8.out; first | omega | exact Nat.le_refl _⟩, ⟨zrk HO_4⟩, ⟨zh0 HB⟩⟩
            ·rw [if_neg c18] at H
             have c18b0 : decide (97 ≤ (bt a0 zadag)) = false := decide_eq_false c18
             clear c18
             have H' := zadae H
             clear H
             have p17 : 0 ≤ (zadag : Int) := of_decide_eq_true (by first | (with_reducible assumption) | assumption)
             have q17 : zadag < (a0.size : Int) := of_decide_eq_true (by first | (with_reducible assumption) | assumption)
             have hx17 := bt_at a0 zadag
             replace p17 := eq_true p17
             replace q17 := eq_true q17
             go_wp2
             go_meet
             case rel => exact ⟨_, (false), (by first | rfl | (simp; done) | (simp [*]; done)), H', ⟨by have := HK1.out; have := HJ3.out; have := HJ8.out; first | omega | exact Nat.le_refl _⟩, ⟨zrk HO_4⟩, ⟨zh0 HB⟩⟩
           ·rw [if_neg c16] at H
            exact absurd H (by simp)
          ·rw [if_neg c15] at H
           exact absurd H (by simp)
         case rest =>
          clear HC14
          try clear c1
          try clear p1
          try clear q1
          try clear hx1
          try clear c2
          try clear c2b0
          try clear c2b1
          try clear p2
          try clear c3
          try clear c3b0
          try clear c5
          try clear c5b0
          try clear p6
          try clear q6
          try clear hx6
          try clear c7
          try clear c7b0
          try clear p8
          try clear q8
          try clear hx8
          try clear c10
          try clear c11
          try clear c11b0
          try clear c12
          try clear c12b0
          try clear p13
          try clear q13
          try clear hx13
          try clear c15
          try clear c15b0
          try clear c16
          try clear c16b0
          try clear p17
          try clear q17
          try clear hx17
          try clear c18
          try clear c18b0
          try clear p19
          try clear q19
          try clear hx19
          try clear p1
          try clear p13
          try clear p17
          try clear p19
          try clear p2
          try clear p6
          try clear p8
          try clear q1
          try clear q13
          try clear q17
          try clear q19
          try clear q6
          try clear q8
          obtain ⟨kq, zadaj, rfl, HA, HJ13, HO_4, HB⟩ := hcut
          cases kq with
          | zero => exact absurd HA.out (by simp [stowageref03_Unhex.j3])
          | succ kj13 =>
           have H := HA.out
           clear HA
           simp only [stowageref03_Unhex.j3] at H
           have HC20 := zadae H
           clear H
           go_upto_if 42 with (fail)
           go_cut [7] (fun v7 wc => ∃ (kq : Nat) (zadai : Int), v7 = .int .i64 zadai ∧ Aside0 (stowageref03_Unhex.j4 kq a0 zadah zadaf zadag zadai = some (r1, r2)) ∧ Aside0 (kq ≤ kj13) ∧ Aside0 (Kd.R (Kd.int .u8) 5 wc w.heap.size (fun _ => True) u4 zadah) ∧ Aside0 (Below w.heap.size w wc))
           case first =>
            have H := HC20.out
            clear HC20
            by_cases c21 : zadaj = true
            ·subst c21
             have H1 : (if 0 ≤ zadag then (if zadag < (a0.size : Int) then (stowageref03_Unhex.j4 kj13 a0 zadah zadaf zadag (wrap64 ((wrap64 (bt a0 zadag)) - 87))) else (none)) else (none)) = some (r1, r2) := by rw [if_pos rfl] at H; exact H
             clear H
             have H := H1
             clear H1
             by_cases c22 : 0 ≤ zadag
             ·rw [if_pos c22] at H
              have c22b0 : decide (0 ≤ zadag) = true := decide_eq_true c22
              clear c22
              (first | rw [c22b0] | (simp only [i64_w, i32_w]; rw [c22b0]) | skip)
              by_cases c23 : zadag < (a0.size : Int)
              ·rw [if_pos c23] at H
               have c23b0 : decide (zadag < (a0.size : Int)) = true := decide_eq_true c23
               clear c23
               have H' := zadae H
               clear H
               have p24 : 0 ≤ (zadag : Int) := of_decide_eq_true (by first | (with_reducible assumption) | assumption)
               have q24 : zadag < (a0.size : Int) := of_decide_eq_true (by first | (with_reducible assumption) | assumption)
               have hx24 := bt_at a0 zadag
               replace p24 := eq_true p24
               replace q24 := eq_true q24
               go_wp2
               go_meet
               case rel => exact ⟨_, (wrap64 ((wrap64 (bt a0 zadag)) - 87)), (by first | rfl | (simp; done) | (simp [*]; done)), H', ⟨by have := HK1.out; have := HJ3.out; have := HJ8.out; have := HJ13.out; first | omega | exact Nat.le_refl _⟩, ⟨zrk HO_4⟩, ⟨zh0 HB⟩⟩
              ·rw [if_neg c23] at H
               exact absurd H (by simp)
             ·rw [if_neg c22] at H
              exact absurd H (by simp)
            ·replace c21 := Bool.eq_false_iff.mpr c21
             subst c21
             have H1 : (stowageref03_Unhex.j4 kj13 a0 zadah zadaf zadag zadak) = some (r1, r2) := by rw [if_neg (show ¬ (false = true) by decide)] at H; exact H
             clear H
             have H := H1
             clear H1
             have H' := zadae H
             clear H
             go_wp2
             go_meet
             case rel => exact ⟨_, (zadak), (by first | rfl | (simp; done) | (simp [*]; done)), H', ⟨by have := HK1.out; have := HJ3.out; have := HJ8.out; have := HJ13.out; first | omega | exact Nat.le_refl _⟩, ⟨zrk HO_4⟩, ⟨zh0 HB⟩⟩
           case rest =>
            clear HC20
            try clear c1
            try clear p1
            try clear q1
            try clear hx1
            try clear c2
            try clear c2b0
            try clear c2b1
            try clear p2
            try clear q2
            try clear hx2
            try clear c3
            try clear c3b0
            try clear c5
            try clear c5b0
            try clear p6
            try clear q6
            try clear hx6
            try clear c7
            try clear c7b0
            try clear p8
            try clear q8
            try clear hx8
            try clear c10
            try clear c11
            try clear c11b0
            try clear c12
            try clear c12b0
            try clear p13
            try clear q13
            try clear hx13
            try clear c15
            try clear c15b0
            try clear c16
            try clear c16b0
            try clear p17
            try clear q17
            try clear hx17
            try clear c18
            try clear c18b0
            try clear p19
            try clear q19
            try clear hx19
            try clear c21
            try clear c22
            try clear c22b0
            try clear c23
            try clear c23b0
            try clear p24
            try clear q24
            try clear hx24
            try clear p1
            try clear p13
            try clear p17
            try clear p19
            try clear p2
            try clear p24
            try clear p6
            try clear p8
            try clear q1
            try clear q13
            try clear q17
            try clear q19
            try clear q24
            try clear q6
            try clear q8
            obtain ⟨kq, zadai, rfl, HA, HJ19, HO_4, HB⟩ := hcut
            cases kq with
            | zero => exact absurd HA.out (by simp [stowageref03_Unhex.j4])
            | succ kj19 =>
             have H := HA.out
             clear HA
             simp only [stowageref03_Unhex.j4] at H
             by_cases c25 : zadai < 0
             ·rw [if_pos c25] at H
              have c25b0 : decide (zadai < 0) = true := decide_eq_true c25
              clear c25
              simp only [Option.some.injEq, Prod.mk.injEq] at H
              obtain ⟨rfl, rfl⟩ := H
              go_wp2
              go_ret2
              exact ⟨by first | rfl | (simp [errW_none, errW_some] <;> rfl) | (simp [*, errW_none, errW_some] <;> rfl), zh0 HB⟩
             ·rw [if_neg c25] at H
              have c25b0 : decide (zadai < 0) = false := decide_eq_false c25
              clear c25
              by_cases c26 : (Int.tmod zadag 2) = 1
              ·rw [if_pos c26] at H
               have c26b0 : ((Int.tmod zadag 2) == 1) = true := beq_iff_eq.mpr c26
               have c26b1 : ((Int.tmod zadag 2) != 1) = false := bne_eq_false_iff_eq.mpr c26
               clear c26
               by_cases c27 : zadah.length < 140737488355328
               ·rw [if_pos c27] at H
                have LMc27 := zadae c27
                clear c27
                obtain ⟨y104, hy104⟩ : ∃ y_ : List Int, y_ = (zadah ++ [(wrap64 ((wrap64 ((Int.tmod zadaf 16) * 16)) + zadai)) % 256]) := ⟨_, rfl⟩
                replace H : (stowageref03_Unhex.l0 kj19 a0 y104 (wrap64 ((wrap64 ((Int.tmod zadaf 16) * 16)) + zadai)) (wrap64 (zadag + 1))) = some (r1, r2) := by first | (rw [hy104]; with_reducible exact H) | (have H2_ := (Option.bind_some _ _).symm.trans H; rw [hy104]; with_reducible exact H2_) | (have H2_ := (Option.bind_some _ _).symm.trans H; with_reducible exact H2_) | with_reducible exact H | (rw [hy104]; exact H) | exact H
                have Ny104 := zadae hy104
                clear hy104
                have H' := zadae H
                clear H
                go_wp2_with (first | ((with_reducible refine gate_builtin (b := .append) (xs := #[.tmp 58, .tmp 61]) rfl ?_); at_builtin; refine Kd.R_append (Kd.int .u8) (w0 := w) w.heap.size rfl (.tmp 58) (.tmp 61) 102 5 (.int .u8 0) 1 rfl Try.underlying102 info5 rfl (by decide) (by omega) u4 zadah ((wrap64 ((wrap64 ((Int.tmod zadaf 16) * 16)) + zadai)) % 256) [.int .u8 ((wrap64 ((wrap64 ((Int.tmod zadaf 16) * 16)) + zadai)) % 256)] (fun _ => True) (fun _ => False) rfl rfl ?aP (fun _ hk => hk.elim) ?aF ?aO ?aB ?aS ?aL ?_; (case aP => exact rfl); (case aB => exact (zh0 HB)); (case aF => exact (fun _ _ => trivial)); (case aO => exact (zrk HO_4)); (case aS => exact (below_size (zh0 HB))); (case aL => have := LMc27.out; omega); intro v105 w28 ho hb hg hat; rw [← Ny104.out] at ho; have n0_ := zadae (hb); have n1_ := zadae (ho); clear HB; clear HO_4; have HB := n0_; have HO106 := n1_; clear n0_ n1_; clear ho hb hg hat))
                go_roundg kj19
                case measure => have := HK1.out; have := HJ3.out; have := HJ8.out; have := HJ13.out; have := HJ19.out; omega
                case rel => exact ⟨(y104), (wrap64 ((wrap64 ((Int.tmod zadaf 16) * 16)) + zadai)), (wrap64 (zadag + 1)), (by first | rfl | (simp; done) | (simp [*]; done)), (by first | rfl | (simp; done) | (simp [*]; done)), H', ⟨by have := HK1.out; have := HJ3.out; have := HJ8.out; have := HJ13.out; have := HJ19.out; omega⟩, ⟨zrk HO106⟩, ⟨zh0 HB⟩⟩
               ·rw [if_neg c27] at H
                exact absurd H (by simp)
              ·rw [if_neg c26] at H
               have c26b0 : ((Int.tmod zadag 2) == 1) = false := beq_eq_false_iff_ne.mpr c26
               have c26b1 : ((Int.tmod zadag 2) != 1) = true := bne_iff_ne.mpr c26
               have H' := zadae H
               clear H
               go_wp2
               go_roundg kj19
               case measure => have := HK1.out; have := HJ3.out; have := HJ8.out; have := HJ13.out; have := HJ19.out; omega
               case rel => exact ⟨(zadah), (wrap64 ((wrap64 ((Int.tmod zadaf 16) * 16)) + zadai)), (wrap64 (zadag + 1)), (by first | rfl | (simp; done) | (simp [*]; done)), (by first | rfl | (simp; done) | (simp [*]; done)), H', ⟨by have := HK1.out; have := HJ3.out; have := HJ8.out; have := HJ13.out; have := HJ19.out; omega⟩, ⟨zrk HO_4⟩, ⟨zh0 HB⟩⟩
    ·rw [if_neg c3] at H
     have c3b0 : decide (zadag < (a0.size : Int)) = false := decide_eq_false c3
     clear c3
     simp only [Option.some.injEq, Prod.mk.injEq] at H
     obtain ⟨rfl, rfl⟩ := H
     have hcv29 := own_string (P := Try.prog) Try.underlying102 Try.underlying5 Try.underlying9 (Kd.own_of_R HO_4.out)
     go_wp2
     go_ret2
     exact ⟨by first | rfl | (simp [errW_none, errW_some] <;> rfl) | (simp [*, errW_none, errW_some] <;> rfl), zh0 HB⟩
 ·rw [if_neg c2] at H
  have c2b0 : (((a0.size : Int) % 2) == 0) = false := beq_eq_false_iff_ne.mpr c2
  have c2b1 : (((a0.size : Int) % 2) != 0) = true := bne_iff_ne.mpr c2
  simp only [Option.some.injEq, Prod.mk.injEq] at H
  obtain ⟨rfl, rfl⟩ := H
  go_enter Try.func57, Try.ntmps57
  go_wp2
  go_ret2
  exact ⟨by first | rfl | (simp [errW_none, errW_some] <;> rfl) | (simp [*, errW_none, errW_some] <;> rfl), zh0 HB⟩

/-! ### stowageref06_May: function 35 -/
def stowageref06_May.f (k : Nat) (a0 : ByteArray) : Option (Bool) := (stowageref03_Unhex.f k a0).bind fun bt107 => (if bt107.2 = 0 then (some ((a0.size : Int) == 64)) else (some false))
set_option maxHeartbeats 8000000 in
set_option maxRecDepth 100000 in
theorem stowageref06_May.calls (k : Nat) (a0 : ByteArray) (r : Bool) (w : World) (h : stowageref06_May.f k a0 = some r) :
  Calls Try.prog 35 #[.string a0] w fun e w' => e = .returned (.bool r) ∧ Below w.heap.size w w' := by
 have HB := zadae (Below.refl w.heap.size w)
 have H : ((stowageref03_Unhex.f k a0).bind fun bt107 => (if bt107.2 = 0 then (some ((a0.size : Int) == 64)) else (some false))) = some r := h
 clear h
 replace H := Option.bind_eq_some_iff.mp H
 obtain ⟨⟨t107, t108⟩, A20, H⟩ := H
 replace H : (if t108 = 0 then (some ((a0.size : Int) == 64)) else (some false)) = some r := H
 have A2 := zadae A20
 clear A20
 by_cases c3 : t108 = 0
 ·rw [if_pos c3] at H
  have c3b0 : (t108 == 0) = true := beq_iff_eq.mpr c3
  have c3b1 : (t108 != 0) = false := bne_eq_false_iff_eq.mpr c3
  clear c3
  obtain rfl := Option.some.inj H
  go_enter Try.func35, Try.ntmps35
  go_wp2_with (first | ((with_reducible refine gate_callee (f := 57) rfl ?_); refine goesL_ (some 7) rfl rfl Try.func57 (by kernel_rfl) rfl #[.string a0] rfl (by (try simp only [List.map_toArray, List.map_cons, List.map_nil]); first | done | rfl) ?_; (with_reducible refine (stowageref03_Unhex.calls k a0 t107 t108 _ A2.out).mono ?_); rintro e w4 ⟨rfl, hb⟩; refine ⟨_, rfl, ?_⟩; have n0_ := zadae (below_step (zh0 HB) hb); clear HB; have HB := n0_; clear n0_; (try clear hb); (try clear hk); (try clear hi)))
  go_ret
  exact ⟨by first | rfl | (simp [errW_none, errW_some] <;> rfl) | (simp [*, errW_none, errW_some] <;> rfl), zh0 HB⟩
 ·rw [if_neg c3] at H
  have c3b0 : (t108 == 0) = false := beq_eq_false_iff_ne.mpr c3
  have c3b1 : (t108 != 0) = true := bne_iff_ne.mpr c3
  obtain rfl := Option.some.inj H
  go_enter Try.func35, Try.ntmps35
  go_wp2_with (first | ((with_reducible refine gate_callee (f := 57) rfl ?_); refine goesL_ (some 7) rfl rfl Try.func57 (by kernel_rfl) rfl #[.string a0] rfl (by (try simp only [List.map_toArray, List.map_cons, List.map_nil]); first | done | rfl) ?_; (with_reducible refine (stowageref03_Unhex.calls k a0 t107 t108 _ A2.out).mono ?_); rintro e w5 ⟨rfl, hb⟩; refine ⟨_, rfl, ?_⟩; have n0_ := zadae (below_step (zh0 HB) hb); clear HB; have HB := n0_; clear n0_; (try clear hb); (try clear hk); (try clear hi)))
  go_ret
  exact ⟨by first | rfl | (simp [errW_none, errW_some] <;> rfl) | (simp [*, errW_none, errW_some] <;> rfl), zh0 HB⟩

/-! ### stowageref13_Pieces: function 10 -/
def stowageref13_Pieces.l0 : Nat → List (S74) → Int → Int → Option (Int × Int)
 | 0, _, _, _ => none
 | k + 1, x0, x4, x5 => if x5 < (x0.length : Int) then (if 0 ≤ x5 then ((stowageref06_May.f k ((rd_T74 x0 x5).f0)).bind fun t110 => (if t110 = true then (if ((rd_T74 x0 x5).f1) < 1 then (some (0, 1)) else (if ((rd_T74 x0 x5).f1) > 4096 then (some (0, 1)) else (stowageref13_Pieces.l0 k x0 (wrap64 (x4 + ((rd_T74 x0 x5).f1))) (wrap64 (x5 + 1))))) else (some (0, 1)))) else (none)) else (if (x0.length : Int) > 512 then (some (0, 1)) else (some (x4, 0)))
def stowageref13_Pieces.f (k : Nat) (l0 : List (S74)) : Option (Int × Int) := stowageref13_Pieces.l0 k l0 0 0
set_option maxHeartbeats 8000000 in
set_option maxRecDepth 100000 in
theorem stowageref13_Pieces.calls (k : Nat) (A0 : Option Addr) (c0 : Nat) (l0 : List (S74)) (r1 : Int) (r2 : Int) (w : World) (hr0 : Kd.C k74 w A0 l0.length l0) (hc0 : l0.length ≤ c0) (h : stowageref13_Pieces.f k l0 = some (r1, r2)) :
  Calls Try.prog 10 #[.slice A0 l0.length c0] w fun e w' => e = .returned (.tuple #[.int .i64 r1, .int .i64 r2]) ∧ Below w.heap.size w w' := by
 have HR0 := zadae hr0
 have HC0 := zadae hc0
 clear hr0 hc0
 have HB := zadae (Below.refl w.heap.size w)
 have H : (stowageref13_Pieces.l0 k l0 0 0) = some (r1, r2) := h
 clear h
 have H' := zadae H
 clear H
 go_enter Try.func10, Try.ntmps10
 go_wp2
 go_loopg [4, 5] k (fun kq v4 v5 w' => ∃ (zadah : Int) (zadaf : Int), v4 = .int .i64 zadah ∧ v5 = .int .i64 zadaf ∧ Aside0 (stowageref13_Pieces.l0 kq l0 zadah zadaf = some (r1, r2)) ∧ Aside0 (kq ≤ k) ∧ Aside0 (Below w.heap.size w w'))
 case atStart => exact ⟨(0), (0), (by first | rfl | (simp; done) | (simp [*]; done)), (by first | rfl | (simp; done) | (simp [*]; done)), H', ⟨Nat.le_refl _⟩, ⟨zh0 HB⟩⟩
 case round =>
  clear H'
  try clear c1
  obtain ⟨zadah, zadaf, rfl, rfl, HA, HK1, HB⟩ := hrel
  cases gk with
  | zero => exact absurd HA.out (by simp [stowageref13_Pieces.l0])
  | succ k1 =>
   have H := HA.out
   clear HA
   simp only [stowageref13_Pieces.l0] at H
   by_cases c2 : zadaf < (l0.length : Int)
   ·rw [if_pos c2] at H
    have c2b0 : decide (zadaf < (l0.length : Int)) = true := decide_eq_true c2
    clear c2
    by_cases c3 : 0 ≤ zadaf
    ·rw [if_pos c3] at H
     have c3b0 : decide (0 ≤ zadaf) = true := decide_eq_true c3
     clear c3
     replace H := Option.bind_eq_some_iff.mp H
     obtain ⟨t110, A40, H⟩ := H
     replace H : (if t110 = true then (if ((rd_T74 l0 zadaf).f1) < 1 then (some (0, 1)) else (if ((rd_T74 l0 zadaf).f1) > 4096 then (some (0, 1)) else (stowageref13_Pieces.l0 k1 l0 (wrap64 (zadah + ((rd_T74 l0 zadaf).f1))) (wrap64 (zadaf + 1))))) else (some (0, 1))) = some (r1, r2) := H
     have A4 := zadae A40
     clear A40
     by_cases c5 : t110 = true
     ·subst c5
      have H1 : (if ((rd_T74 l0 zadaf).f1) < 1 then (some (0, 1)) else (if ((rd_T74 l0 zadaf).f1) > 4096 then (some (0, 1)) else (stowageref13_Pieces.l0 k1 l0 (wrap64 (zadah + ((rd_T74 l0 zadaf).f1))) (wrap64 (zadaf + 1))))) = some (r1, r2) := by rw [if_pos rfl] at H; exact H
      clear H
      have H := H1
      clear H1
      by_cases c6 : ((rd_T74 l0 zadaf).f1) < 1
      ·rw [if_pos c6] at H
       have c6b0 : decide (((rd_T74 l0 zadaf).f1) < 1) = true := decide_eq_true c6
       clear c6
       simp only [Option.some.injEq, Prod.mk.injEq] at H
       obtain ⟨rfl, rfl⟩ := H
       have p109 : 0 ≤ (zadaf : Int) := of_decide_eq_true (by first | (with_reducible assumption) | assumption)
       have q109 : zadaf < (l0.length : Int) := of_decide_eq_true (by first | (with_reducible assumption) | assumption)
       obtain ⟨ad109, e109, hx109_0, hx109_1⟩ := at_T74 HR0.out zadaf p109 q109
       cases e109
       replace hx109_0 := (HB.out.cell (zadaa w _ hx109_0)).trans hx109_0
       replace hx109_1 := (HB.out.cell (zadaa w _ hx109_1)).trans hx109_1
       replace p109 := eq_true p109
       replace q109 := eq_true q109
       go_wp2_with (first | ((with_reducible refine gate_callee (f := 35) rfl ?_); refine goesL_ (some 17) rfl rfl Try.func35 (by kernel_rfl) rfl #[.string ((rd_T74 l0 zadaf).f0)] rfl (by (try simp only [List.map_toArray, List.map_cons, List.map_nil]); first | done | rfl) ?_; (with_reducible refine (stowageref06_May.calls k1 ((rd_T74 l0 zadaf).f0) true _ A4.out).mono ?_); rintro e w7 ⟨rfl, hb⟩; refine ⟨_, rfl, ?_⟩; have n0_ := zadae (below_step (zh0 HB) hb); clear HB; have HB := n0_; clear n0_; (try clear hb); (try clear hk); (try clear hi); have p111 : 0 ≤ (zadaf : Int) := of_decide_eq_true (by first | (with_reducible assumption) | assumption); have q111 : zadaf < (l0.length : Int) := of_decide_eq_true (by first | (with_reducible assumption) | assumption); obtain ⟨ad111, e111, hx111_0, hx111_1⟩ := at_T74 HR0.out zadaf p111 q111; obtain rfl : ad109 = ad111 := (by injection e111); replace hx111_0 := (HB.out.cell (zadaa w _ hx111_0)).trans hx111_0; replace hx111_1 := (HB.out.cell (zadaa w _ hx111_1)).trans hx111_1; replace p111 := eq_true p111; replace q111 := eq_true q111))
       go_ret2
       exact ⟨by first | rfl | (simp [errW_none, errW_some] <;> rfl) | (simp [*, errW_none, errW_some] <;> rfl), zh0 HB⟩
      ·rw [if_neg c6] at H
       have c6b0 : decide (((rd_T74 l0 zadaf).f1) < 1) = false := decide_eq_false c6
       clear c6
       by_cases c8 : ((rd_T74 l0 zadaf).f1) > 4096
       ·rw [if_pos c8] at H
        have c8b0 : decide (4096 < ((rd_T74 l0 zadaf).f1)) = true := decide_eq_true c8
        clear c8
        simp only [Option.some.injEq, Prod.mk.injEq] at H
        obtain ⟨rfl, rfl⟩ := H
        have p109 : 0 ≤ (zadaf : Int) := of_decide_eq_true (by first | (with_reducible assumption) | assumption)
        have q109 : zadaf < (l0.length : Int) := of_decide_eq_true (by first | (with_reducible assumption) | assumption)
        obtain ⟨ad109, e109, hx109_0, hx109_1⟩ := at_T74 HR0.out zadaf p109 q109
        cases e109
        replace hx109_0 := (HB.out.cell (zadaa w _ hx109_0)).trans hx109_0
        replace hx109_1 := (HB.out.cell (zadaa w _ hx109_1)).trans hx109_1
        replace p109 := eq_true p109
        replace q109 := eq_true q109
        go_wp2_with (first | ((with_reducible refine gate_callee (f := 35) rfl ?_); refine goesL_ (some 17) rfl rfl Try.func35 (by kernel_rfl) rfl #[.string ((rd_T74 l0 zadaf).f0)] rfl (by (try simp only [List.map_toArray, List.map_cons, List.map_nil]); first | done | rfl) ?_; (with_reducible refine (stowageref06_May.calls k1 ((rd_T74 l0 zadaf).f0) true _ A4.out).mono ?_); rintro e w9 ⟨rfl, hb⟩; refine ⟨_, rfl, ?_⟩; have n0_ := zadae (below_step (zh0 HB) hb); clear HB; have HB := n0_; clear n0_; (try clear hb); (try clear hk); (try clear hi); have p111 : 0 ≤ (zadaf : Int) := of_decide_eq_true (by first | (with_reducible assumption) | assumption); have q111 : zadaf < (l0.length : Int) := of_decide_eq_true (by first | (with_reducible assumption) | assumption); obtain ⟨ad111, e111, hx111_0, hx111_1⟩ := at_T74 HR0.out zadaf p111 q111; obtain rfl : ad109 = ad111 := (by injection e111); replace hx111_0 := (HB.out.cell (zadaa w _ hx111_0)).trans hx111_0; replace hx111_1 := (HB.out.cell (zadaa w _ hx111_1)).trans hx111_1; replace p111 := eq_true p111; replace q111 := eq_true q111; have p112 : 0 ≤ (zadaf : Int) := of_decide_eq_true (by first | (with_reducible assumption) | assumption); have q112 : zadaf < (l0.length : Int) := of_decide_eq_true (by first | (with_reducible assumption) | assumption); obtain ⟨ad112, e112, hx112_0, hx112_1⟩ := at_T74 HR0.out zadaf p112 q112; obtain rfl : ad109 = ad112 := (by injection e112); replace hx112_0 := (HB.out.cell (zadaa w _ hx112_0)).trans hx112_0; replace hx112_1 := (HB.out.cell (zadaa w _ hx112_1)).trans hx112_1; replace p112 := eq_true p112; replace q112 := eq_true q112))
        go_ret2
        exact ⟨by first | rfl | (simp [errW_none, errW_some] <;> rfl) | (simp [*, errW_none, errW_some] <;> rfl), zh0 HB⟩
       ·rw [if_neg c8] at H
        have c8b0 : decide (4096 < ((rd_T74 l0 zadaf).f1)) = false := decide_eq_false c8
        clear c8
        have H' := zadae H
        clear H
        have p109 : 0 ≤ (zadaf : Int) := of_decide_eq_true (by first | (with_reducible assumption) | assumption)
        have q109 : zadaf < (l0.length : Int) := of_decide_eq_true (by first | (with_reducible assumption) | assumption)
        obtain ⟨ad109, e109, hx109_0, hx109_1⟩ := at_T74 HR0.out zadaf p109 q109
        cases e109
        replace hx109_0 := (HB.out.cell (zadaa w _ hx109_0)).trans hx109_0
        replace hx109_1 := (HB.out.cell (zadaa w _ hx109_1)).trans hx109_1
        replace p109 := eq_true p109
        replace q109 := eq_true q109
        go_wp2_with (first | ((with_reducible refine gate_callee (f := 35) rfl ?_); refine goesL_ (some 17) rfl rfl Try.func35 (by kernel_rfl) rfl #[.string ((rd_T74 l0 zadaf).f0)] rfl (by (try simp only [List.map_toArray, List.map_cons, List.map_nil]); first | done | rfl) ?_; (with_reducible refine (stowageref06_May.calls k1 ((rd_T74 l0 zadaf).f0) true _ A4.out).mono ?_); rintro e w10 ⟨rfl, hb⟩; refine ⟨_, rfl, ?_⟩; have n0_ := zadae (below_step (zh0 HB) hb); clear HB; have HB := n0_; clear n0_; (try clear hb); (try clear hk); (try clear hi); have p111 : 0 ≤ (zadaf : Int) := of_decide_eq_true (by first | (with_reducible assumption) | assumption); have q111 : zadaf < (l0.length : Int) := of_decide_eq_true (by first | (with_reducible assumption) | assumption); obtain ⟨ad111, e111, hx111_0, hx111_1⟩ := at_T74 HR0.out zadaf p111 q111; obtain rfl : ad109 = ad111 := (by injection e111); replace hx111_0 := (HB.out.cell (zadaa w _ hx111_0)).trans hx111_0; replace hx111_1 := (HB.out.cell (zadaa w _ hx111_1)).trans hx111_1; replace p111 := eq_true p111; replace q111 := eq_true q111; have p112 : 0 ≤ (zadaf : Int) := of_decide_eq_true (by first | (with_reducible assumption) | assumption); have q112 : zadaf < (l0.length : Int) := of_decide_eq_true (by first | (with_reducible assumption) | assumption); obtain ⟨ad112, e112, hx112_0, hx112_1⟩ := at_T74 HR0.out zadaf p112 q112; obtain rfl : ad109 = ad112 := (by injection e112); replace hx112_0 := (HB.out.cell (zadaa w _ hx112_0)).trans hx112_0; replace hx112_1 := (HB.out.cell (zadaa w _ hx112_1)).trans hx112_1; replace p112 := eq_true p112; replace q112 := eq_true q112; have p113 : 0 ≤ (zadaf : Int) := of_decide_eq_true (by first | (with_reducible assumption) | assumption); have q113 : zadaf < (l0.length : Int) := of_decide_eq_true (by first | (with_reducible assumption) | assumption); obtain ⟨ad113, e113, hx113_0, hx113_1⟩ := at_T74 HR0.out zadaf p113 q113; obtain rfl : ad109 = ad113 := (by injection e113); replace hx113_0 := (HB.out.cell (zadaa w _ hx113_0)).trans hx113_0; replace hx113_1 := (HB.out.cell (zadaa w _ hx113_1)).trans hx113_1; replace p113 := eq_true p113; replace q113 := eq_true q113))
        go_roundg k1
        case measure => have := HK1.out; omega
        case rel => exact ⟨(wrap64 (zadah + ((rd_T74 l0 zadaf).f1))), (wrap64 (zadaf + 1)), (by first | rfl | (simp; done) | (simp [*]; done)), (by first | rfl | (simp; done) | (simp [*]; done)), H', ⟨by have := HK1.out; omega⟩, ⟨zh0 HB⟩⟩
     ·replace c5 := Bool.eq_false_iff.mpr c5
      subst c5
      have H1 : (some (0, 1)) = some (r1, r2) := by rw [if_neg (show ¬ (false = true) by decide)] at H; exact H
      clear H
      have H := H1
      clear H1
      simp only [Option.some.injEq, Prod.mk.injEq] at H
      obtain ⟨rfl, rfl⟩ := H
      have p109 : 0 ≤ (zadaf : Int) := of_decide_eq_true (by first | (with_reducible assumption) | assumption)
      have q109 : zadaf < (l0.length : Int) := of_decide_eq_true (by first | (with_reducible assumption) | assumption)
      obtain ⟨ad109, e109, hx109_0, hx109_1⟩ := at_T74 HR0.out zadaf p109 q109
      cases e109
      replace hx109_0 := (HB.out.cell (zadaa w _ hx109_0)).trans hx109_0
      replace hx109_1 := (HB.out.cell (zadaa w _ hx109_1)).trans hx109_1
      replace p109 := eq_true p109
      replace q109 := eq_true q109
      go_wp2_with (first | ((with_reducible refine gate_callee (f := 35) rfl ?_); refine goesL_ (some 17) rfl rfl Try.func35 (by kernel_rfl) rfl #[.string ((rd_T74 l0 zadaf).f0)] rfl (by (try simp only [List.map_toArray, List.map_cons, List.map_nil]); first | done | rfl) ?_; (with_reducible refine (stowageref06_May.calls k1 ((rd_T74 l0 zadaf).f0) false _ A4.out).mono ?_); rintro e w11 ⟨rfl, hb⟩; refine ⟨_, rfl, ?_⟩; have n0_ := zadae (below_step (zh0 HB) hb); clear HB; have HB := n0_; clear n0_; (try clear hb); (try clear hk); (try clear hi)))
      go_ret2
      exact ⟨by first | rfl | (simp [errW_none, errW_some] <;> rfl) | (simp [*, errW_none, errW_some] <;> rfl), zh0 HB⟩
    ·rw [if_neg c3] at H
     exact absurd H (by simp)
   ·rw [if_neg c2] at H
    have c2b0 : decide (zadaf < (l0.length : Int)) = false := decide_eq_false c2
    clear c2
    by_cases c12 : (l0.length : Int) > 512
    ·rw [if_pos c12] at H
     have c12b0 : decide (512 < (l0.length : Int)) = true := decide_eq_true c12
     have c12b1 : decide (512 < l0.length) = true := decide_eq_true (by omega)
     clear c12
     simp only [Option.some.injEq, Prod.mk.injEq] at H
     obtain ⟨rfl, rfl⟩ := H
     go_wp2
     go_ret2
     exact ⟨by first | rfl | (simp [errW_none, errW_some] <;> rfl) | (simp [*, errW_none, errW_some] <;> rfl), zh0 HB⟩
    ·rw [if_neg c12] at H
     have c12b0 : decide (512 < (l0.length : Int)) = false := decide_eq_false c12
     have c12b1 : decide (512 < l0.length) = false := decide_eq_false (by omega)
     clear c12
     simp only [Option.some.injEq, Prod.mk.injEq] at H
     obtain ⟨rfl, rfl⟩ := H
     go_wp2
     go_ret2
     exact ⟨by first | rfl | (simp [errW_none, errW_some] <;> rfl) | (simp [*, errW_none, errW_some] <;> rfl), zh0 HB⟩

end Go.Proofs.Ytmpnaaegahjfkaa.Q