

/- Functions of the document's answer, printed: what is cut; are two lists the same. -/
import Derived.Test.YtpgbkeaaklglkaaGreatDoorQx0
namespace Go.Proofs.YtpgbkeaaklglkaaGreatDoor.Q
open Go.RowKit Go.Proofs.YtpgbkeaaklglkaaGreatDoorW.PrintWords Go.Proofs.YtpgbkeaaklglkaaGreatDoorW.PrintLast Go.Proofs.YtpgbkeaaklglkaaGreatDoorW.PrintMore
attribute [local go_sem] max2_int min2_int max_two min_two max_three min_three max_four min_four   -- for this text's walks alone
set_option linter.unusedVariables false
set_option linter.unusedSimpArgs false
attribute [local go_sem] xor_ones_u8 xor_ones_u16 xor_ones_u32 xor_ones_u64 cell_twice frozen_twice
/-! ### stowageref06_Cut: function 30 -/
def stowageref06_Cut.l0 : Nat → ByteArray → Int → List ByteArray → Int → Option (List ByteArray)
 | 0, _, _, _, _ => none
 | k + 1, x0, x1, x5, x6 => if x6 < (x0.size : Int) then (if 0 ≤ x6 then (if x6 ≤ (mn (wrap64 (x6 + x1)) (x0.size : Int)) then (if (mn (wrap64 (x6 + x1)) (x0.size : Int)) ≤ (x0.size : Int) then (if x5.length < 8796093022208 then (stowageref06_Cut.l0 k x0 x1 (x5 ++ [x0.extract (x6 : Int).toNat ((mn (wrap64 (x6 + x1)) (x0.size : Int)) : Int).toNat]) (wrap64 (x6 + x1))) else (none)) else (none)) else (none)) else (none)) else (some x5)
def stowageref06_Cut.f (k : Nat) (a0 : ByteArray) (a1 : Int) : Option (List ByteArray) := stowageref06_Cut.l0 k a0 a1 ([] : List ByteArray) 0
theorem stowageref06_Cut.mono_l : ∀ k, (∀ y0 y1 y2 y3, LeO (stowageref06_Cut.l0 k y0 y1 y2 y3) (stowageref06_Cut.l0 (k + 1) y0 y1 y2 y3))
 | 0 => fun _ _ _ _ r h => by simp [stowageref06_Cut.l0] at h
 | k + 1 => by
  have ih0 := stowageref06_Cut.mono_l k
  ·intro y0 y1 y2 y3
   unfold stowageref06_Cut.l0
   repeat' first
   | (with_reducible exact ih0 _ _ _ _)
   | (with_reducible exact LeO.refl _)
   | (with_reducible exact LeO.none _)
   | (with_reducible refine LeO.ite ?_ ?_)
   | (with_reducible refine LeO.bind ?_ (fun _ => ?_))
   | exact ih0 _ _ _ _
   | exact LeO.none _
   | refine LeO.ite ?_ ?_
   | refine LeO.bind ?_ (fun _ => ?_)
theorem stowageref06_Cut.mono : ∀ a0 a1 k, LeO (stowageref06_Cut.f k a0 a1) (stowageref06_Cut.f (k + 1) a0 a1) := by
 intro a0 a1 k
 have ih0 := stowageref06_Cut.mono_l k
 unfold stowageref06_Cut.f
 repeat' first
   | (with_reducible exact ih0 _ _ _ _)
   | (with_reducible exact LeO.refl _)
   | (with_reducible exact LeO.none _)
   | (with_reducible refine LeO.ite ?_ ?_)
   | (with_reducible refine LeO.bind ?_ (fun _ => ?_))
   | exact ih0 _ _ _ _
   | exact LeO.none _
   | refine LeO.ite ?_ ?_
   | refine LeO.bind ?_ (fun _ => ?_)
set_option maxHeartbeats 8000000 in
set_option maxRecDepth 100000 in
theorem stowageref06_Cut.calls (k : Nat) (a0 : ByteArray) (a1 : Int) (r : List ByteArray) (w : World) (h : stowageref06_Cut.f k a0 a1 = some r) :
  Calls Tryz.prog 30 #[.string a0, .int .i64 a1] w fun e w' => ∃ v0_ : Value, e = .returned (v0_) ∧ Kd.R Kd.string 9 w' w.heap.size (fun _ => True) v0_ r ∧ Below w.heap.size w w' := by
 have HB := Aside0.mk (Below.refl w.heap.size w)
 have H : (stowageref06_Cut.l0 k a0 a1 ([] : List ByteArray) 0) = some r := h
 clear h
 have H' := Aside0.mk H
 clear H
 go_enter Tryz.func30, Tryz.ntmps30
 go_wp2
 go_loopg [5, 6] k (fun kq v5 v6 w' => ∃ (zjab : List ByteArray) (zjaa : Int), v6 = .int .i64 zjaa ∧ Aside0 (stowageref06_Cut.l0 kq a0 a1 zjab zjaa = some r) ∧ Aside0 (kq ≤ k) ∧ Aside0 (Kd.R Kd.string 9 w' w.heap.size (fun _ => True) v5 zjab) ∧ Aside0 (Below w.heap.size w w'))
 case atStart => exact ⟨(([] : List ByteArray)), (0), (by first | rfl | (simp; done) | (simp [*]; done)), H', ⟨Nat.le_refl _⟩, ⟨by first | exact Kd.R_nil _ _ _ _ _ | exact Kd.N_nil _ _ _ _ _ | exact Kd.V_nil _ _ _ _ _ | exact Kd.Q_nil _ _ _ _ _ | exact Kd.S_nil _ _ _ _ _⟩, ⟨by repeat (first | (with_reducible first | exact HB.out | apply below_alloc | apply pw_below_drewN | apply below_drew1) | exact HB.out)⟩⟩
 case round =>
  clear H'
  try clear p2
  obtain ⟨zjab, zjaa, rfl, HA, HK1, HO_5, HB⟩ := hrel
  cases gk with
  | zero => exact absurd HA.out (by simp [stowageref06_Cut.l0])
  | succ k1 =>
   have H := HA.out
   clear HA
   simp only [stowageref06_Cut.l0] at H
   by_cases c3 : zjaa < (a0.size : Int)
   ·rw [if_pos c3] at H
    have c3b0 : decide (zjaa < (a0.size : Int)) = true := decide_eq_true c3
    clear c3
    obtain ⟨ji4, hji4⟩ : ∃ j_ : Int, (mn (wrap64 (zjaa + a1)) (a0.size : Int)) = j_ := ⟨_, rfl⟩
    replace H : (if 0 ≤ zjaa then (if zjaa ≤ (ji4) then (if (ji4) ≤ (a0.size : Int) then (if zjab.length < 8796093022208 then (stowageref06_Cut.l0 k1 a0 a1 (zjab ++ [a0.extract (zjaa : Int).toNat ((ji4) : Int).toNat]) (wrap64 (zjaa + a1))) else (none)) else (none)) else (none)) else (none)) = some r := by first | (rw [hji4] at H; exact H) | (simp only [hji4] at H ⊢; exact H)
    have hji4_ : (if (a0.size : Int) < (wrap64 (zjaa + a1)) then (a0.size : Int) else (wrap64 (zjaa + a1))) = ji4 := hji4
    by_cases c5 : 0 ≤ zjaa
    ·rw [if_pos c5] at H
     have c5b0 := eq_true c5
     have c5b1 : decide (0 ≤ zjaa) = true := decide_eq_true c5
     clear c5
     by_cases c6 : zjaa ≤ (ji4)
     ·rw [if_pos c6] at H
      have c6b0 := eq_true c6
      have c6b1 : decide (zjaa ≤ (ji4)) = true := decide_eq_true c6
      clear c6
      by_cases c7 : (ji4) ≤ (a0.size : Int)
      ·rw [if_pos c7] at H
       have c7b0 := eq_true c7
       have c7b1 : decide ((ji4) ≤ (a0.size : Int)) = true := decide_eq_true c7
       clear c7
       by_cases c8 : zjab.length < 8796093022208
       ·rw [if_pos c8] at H
        have LMc8 := Aside0.mk c8
        clear c8
        obtain ⟨y318, hy318⟩ : ∃ y_ : List ByteArray, y_ = (zjab ++ [a0.extract (zjaa : Int).toNat ((ji4) : Int).toNat]) := ⟨_, rfl⟩
        replace H : (stowageref06_Cut.l0 k1 a0 a1 y318 (wrap64 (zjaa + a1))) = some r := by first | (rw [hy318]; with_reducible exact H) | (have H2_ := (Option.bind_some _ _).symm.trans H; rw [hy318]; with_reducible exact H2_) | (have H2_ := (Option.bind_some _ _).symm.trans H; with_reducible exact H2_) | with_reducible exact H | (rw [hy318]; exact H) | exact H
        have Ny318 := Aside0.mk hy318
        clear hy318
        have H' := Aside0.mk H
        clear H
        go_wp2_with (first | ((with_reducible refine gate_builtin (b := .append) (xs := #[.tmp 14, .tmp 24]) rfl ?_); at_builtin; refine Kd.R_append Kd.string (w0 := w) w.heap.size rfl (.tmp 14) (.tmp 24) 22 9 (.string ⟨#[]⟩) 16 rfl Tryz.underlying22 info9 rfl (by decide) (by omega) u5 zjab (a0.extract (zjaa : Int).toNat ((ji4) : Int).toNat) [.string (a0.extract (zjaa : Int).toNat ((ji4) : Int).toNat)] (fun _ => True) (fun _ => False) rfl rfl ?aP (fun _ hk => hk.elim) ?aF ?aO ?aB ?aS ?aL ?_; (case aP => exact rfl); (case aB => exact (by repeat (first | (with_reducible first | exact HB.out | apply below_alloc | apply pw_below_drewN | apply below_drew1) | exact HB.out))); (case aF => exact (fun _ _ => trivial)); (case aO => exact (by (with_reducible repeat (first | apply Kd.R_alloc | apply Kd.R_drewN | apply Kd.R_drew)); exact HO_5.out)); (case aS => exact (below_size (by repeat (first | (with_reducible first | exact HB.out | apply below_alloc | apply pw_below_drewN | apply below_drew1) | exact HB.out)))); (case aL => have := LMc8.out; omega); intro v319 w9 ho hb hg hat; rw [← Ny318.out] at ho; have n0_ := Aside0.mk (hb); have n1_ := Aside0.mk (ho); clear HB; clear HO_5; have HB := n0_; have HO320 := n1_; clear n0_ n1_; clear ho hb hg hat))
        go_roundg k1
        case measure => have := HK1.out; omega
        case rel => exact ⟨(y318), (wrap64 (zjaa + a1)), (by first | rfl | (simp; done) | (simp [*]; done)), H', ⟨by have := HK1.out; omega⟩, ⟨by (with_reducible repeat (first | apply Kd.R_alloc | apply Kd.R_drewN | apply Kd.R_drew)); exact HO320.out⟩, ⟨by repeat (first | (with_reducible first | exact HB.out | apply below_alloc | apply pw_below_drewN | apply below_drew1) | exact HB.out)⟩⟩
       ·rw [if_neg c8] at H
        exact absurd H (by simp)
      ·rw [if_neg c7] at H
       exact absurd H (by simp)
     ·rw [if_neg c6] at H
      exact absurd H (by simp)
    ·rw [if_neg c5] at H
     exact absurd H (by simp)
   ·rw [if_neg c3] at H
    have c3b0 : decide (zjaa < (a0.size : Int)) = false := decide_eq_false c3
    clear c3
    obtain rfl := Option.some.inj H
    go_wp2
    go_ret
    exact ⟨_, by first | rfl | (simp [errW_none, errW_some] <;> rfl) | (simp [*, errW_none, errW_some] <;> rfl), by (with_reducible repeat (first | apply Kd.R_alloc | apply Kd.R_drewN | apply Kd.R_drew)); exact HO_5.out, by repeat (first | (with_reducible first | exact HB.out | apply below_alloc | apply pw_below_drewN | apply below_drew1) | exact HB.out)⟩
end Go.Proofs.YtpgbkeaaklglkaaGreatDoor.Q