

/- Written by a program of this session (wip/patch_print.py over the kit's print): functions of the given program as plain Lean functions, and that each call does what its function says, under no further conditions. -/
import Derived.Test.YtmpnaaegahjfkaaQx0
import Derived.Test.YtmpnaaegahjfkaaQx11
namespace Go.Proofs.Ytmpnaaegahjfkaa.Q
open Go.RowKit Go.Proofs.YtmpnaaegahjfkaaW.PrintWords Go.Proofs.YtmpnaaegahjfkaaW.PrintLast Go.Proofs.YtmpnaaegahjfkaaW.PrintMore
attribute [local go_sem] max2_int min2_int max_two min_two max_three min_three max_four min_four   -- for this text's walks alone
set_option linter.unusedVariables false
set_option linter.unusedSimpArgs false
attribute [local go_sem] xor_ones_u8 xor_ones_u16 xor_ones_u32 xor_ones_u64 cell_twice frozen_twice
abbrev zaraa := @World.block_lt_of_cell?
abbrev zarab := @pw_below_drewN
abbrev zarac := @below_drew1
abbrev zarad := @below_alloc
abbrev zarae := @Aside0.mk
/-! ### stowageref13_Ids: function 29 -/
mutual
def stowageref13_Ids.l0 : Nat → List (S36) → List ByteArray → Int → Option (List ByteArray)
 | 0, _, _, _ => none
 | k + 1, x0, x3, x4 => if x4 < (x0.length : Int) then ((stowageref13_May.f k x0).bind fun t347 => (stowageref13_Ids.j1 k x0 x3 x4 t347)) else (stowageref13_Ids.j1 k x0 x3 x4 false)
def stowageref13_Ids.j1 : Nat → List (S36) → List ByteArray → Int → Bool → Option (List ByteArray)
 | 0, _, _, _, _ => none
 | k + 1, x0, x3, x4, x13 => if x13 = true then (stowageref13_Ids.l1 k x0 x3 x4 0) else (some x3)
def stowageref13_Ids.l1 : Nat → List (S36) → List ByteArray → Int → Int → Option (List ByteArray)
 | 0, _, _, _, _ => none
 | k + 1, x0, x3, x4, x5 => if 0 ≤ x4 then (if x4 < (x0.length : Int) then (if x5 < (((rd_T36 x0 x4).f4).length : Int) then (if 0 ≤ x5 then (if x3.length < 8796093022208 then (stowageref13_Ids.l1 k x0 (x3 ++ [(rd_T74 ((rd_T36 x0 x4).f4) x5).f0]) x4 (wrap64 (x5 + 1))) else (none)) else (none)) else (stowageref13_Ids.l0 k x0 x3 (wrap64 (x4 + 1)))) else (none)) else (none)
end
def stowageref13_Ids.f (k : Nat) (l0 : List (S36)) : Option (List ByteArray) := stowageref13_Ids.l0 k l0 ([] : List ByteArray) 0
set_option maxHeartbeats 8000000 in
set_option maxRecDepth 100000 in
theorem stowageref13_Ids.calls (k : Nat) (A0 : Option Addr) (c0 : Nat) (l0 : List (S36)) (r : List ByteArray) (w : World) (hr0 : Kd.C k36 w A0 l0.length l0) (hc0 : l0.length ≤ c0) (h : stowageref13_Ids.f k l0 = some r) :
  Calls Try.prog 29 #[.slice A0 l0.length c0] w fun e w' => ∃ v0_ : Value, e = .returned (v0_) ∧ Kd.R Kd.string 9 w' w.heap.size (fun _ => True) v0_ r ∧ Below w.heap.size w w' := by
 have HR0 := zarae hr0
 have HC0 := zarae hc0
 clear hr0 hc0
 have HB := zarae (Below.refl w.heap.size w)
 have H : (stowageref13_Ids.l0 k l0 ([] : List ByteArray) 0) = some r := h
 clear h
 have H' := zarae H
 clear H
 go_enter Try.func29, Try.ntmps29
 go_wp2
 go_loopg [3, 4] k (fun kq v3 v4 w' => ∃ (zarah : List ByteArray) (zaraf : Int), v4 = .int .i64 zaraf ∧ Aside0 (stowageref13_Ids.l0 kq l0 zarah zaraf = some r) ∧ Aside0 (kq ≤ k) ∧ Aside0 (Kd.R Kd.string 9 w' w.heap.size (fun _ => True) v3 zarah) ∧ Aside0 (Below w.heap.size w w'))
 case atStart => exact ⟨(([] : List ByteArray)), (0), (by first | rfl | (simp; done) | (simp [*]; done)), H', ⟨Nat.le_refl _⟩, ⟨by first | exact Kd.R_nil _ _ _ _ _ | exact Kd.N_nil _ _ _ _ _ | exact Kd.V_nil _ _ _ _ _ | exact Kd.Q_nil _ _ _ _ _ | exact Kd.S_nil _ _ _ _ _⟩, ⟨by repeat (first | (with_reducible first | exact HB.out | apply zarad | apply zarab | apply zarac) | exact HB.out)⟩⟩
 case round =>
  clear H'
  obtain ⟨zarah, zaraf, rfl, HA, HK1, HO_3, HB⟩ := hrel
  cases gk with
  | zero => exact absurd HA.out (by simp [stowageref13_Ids.l0])
  | succ k1 =>
   have H := HA.out
   clear HA
   simp only [stowageref13_Ids.l0] at H
   have HC2 := zarae H
   clear H
   go_upto_region 3 with (fail)
   go_cut [13] (fun v13 wc => ∃ (kq : Nat) (zaraj : Bool), v13 = .bool zaraj ∧ Aside0 (stowageref13_Ids.j1 kq l0 zarah zaraf zaraj = some r) ∧ Aside0 (kq ≤ k1) ∧ Aside0 (Kd.R Kd.string 9 wc w.heap.size (fun _ => True) u3 zarah) ∧ Aside0 (Below w.heap.size w wc))
   case first =>
    have H := HC2.out
    clear HC2
    by_cases c3 : zaraf < (l0.length : Int)
    ·rw [if_pos c3] at H
     have c3b0 : decide (zaraf < (l0.length : Int)) = true := decide_eq_true c3
     clear c3
     (first | rw [c3b0] | (simp only [i64_w, i32_w]; rw [c3b0]) | skip)
     replace H := Option.bind_eq_some_iff.mp H
     obtain ⟨t347, A40, H⟩ := H
     replace H : (stowageref13_Ids.j1 k1 l0 zarah zaraf t347) = some r := H
     have A4 := zarae A40
     clear A40
     have H' := zarae H
     clear H
     go_wp2_with (first | (go_at_call 40; (with_reducible refine (stowageref13_May.calls k1 _ _ l0 t347 _ ?side1 ?side2 A4.out).mono ?_); (case side1 => repeat (first | exact (Kd.C_below HR0.out HB.out) | (with_reducible refine Kd.C_alloc ?_ _) | (with_reducible refine Kd.C_drewN ?_ _) | (with_reducible refine Kd.C_drew ?_))); (case side2 => exact HC0.out); rintro e w5 ⟨rfl, hb⟩; have n0_ := zarae (Kd.R_below (by (with_reducible repeat (first | apply Kd.R_alloc | apply Kd.R_drewN | apply Kd.R_drew)); exact HO_3.out) hb); have n1_ := zarae (below_step (by repeat (first | (with_reducible first | exact HB.out | apply zarad | apply zarab | apply zarac) | exact HB.out)) hb); clear HO_3; clear HB; have HO_3 := n0_; have HB := n1_; clear n0_ n1_; (try clear hb); (try clear hk); (try clear hi)))
     go_meet
     case rel => exact ⟨_, (t347), (by first | rfl | (simp; done) | (simp [*]; done)), H', ⟨by have := HK1.out; first | omega | exact Nat.le_refl _⟩, ⟨by (with_reducible repeat (first | apply Kd.R_alloc | apply Kd.R_drewN | apply Kd.R_drew)); exact HO_3.out⟩, ⟨by repeat (first | (with_reducible first | exact HB.out | apply zarad | apply zarab | apply zarac) | exact HB.out)⟩⟩
    ·rw [if_neg c3] at H
     have c3b0 : decide (zaraf < (l0.length : Int)) = false := decide_eq_false c3
     clear c3
     (first | rw [c3b0] | (simp only [i64_w, i32_w]; rw [c3b0]) | skip)
     have H' := zarae H
     clear H
     go_wp2
     go_meet
     case rel => exact ⟨_, (false), (by first | rfl | (simp; done) | (simp [*]; done)), H', ⟨by have := HK1.out; first | omega | exact Nat.le_refl _⟩, ⟨by (with_reducible repeat (first | apply Kd.R_alloc | apply Kd.R_drewN | apply Kd.R_drew)); exact HO_3.out⟩, ⟨by repeat (first | (with_reducible first | exact HB.out | apply zarad | apply zarab | apply zarac) | exact HB.out)⟩⟩
   case rest =>
    clear HC2
    try clear c2
    try clear p2
    try clear c3
    try clear c3b0
    obtain ⟨kq, zaraj, rfl, HA, HJ1, HO_3, HB⟩ := hcut
    cases kq with
    | zero => exact absurd HA.out (by simp [stowageref13_Ids.j1])
    | succ kj1 =>
     have H := HA.out
     clear HA
     simp only [stowageref13_Ids.j1] at H
     by_cases c6 : zaraj = true
     ·subst c6
      have H1 : (stowageref13_Ids.l1 kj1 l0 zarah zaraf 0) = some r := by rw [if_pos rfl] at H; exact H
      clear H
      have H := H1
      clear H1
      have H' := zarae H
      clear H
      go_wp2
      go_loopg [3, 5] kj1 (fun kq v3 v5 w' => ∃ (zarai : List ByteArray) (zarag : Int), v5 = .int .i64 zarag ∧ Aside0 (stowageref13_Ids.l1 kq l0 zarai zaraf zarag = some r) ∧ Aside0 (kq ≤ kj1) ∧ Aside0 (Kd.R Kd.string 9 w' w.heap.size (fun _ => True) v3 zarai) ∧ Aside0 (Below w.heap.size w w'))
      case atStart => exact ⟨(zarah), (0), (by first | rfl | (simp; done) | (simp [*]; done)), H', ⟨Nat.le_refl _⟩, ⟨by (with_reducible repeat (first | apply Kd.R_alloc | apply Kd.R_drewN | apply Kd.R_drew)); exact HO_3.out⟩, ⟨by repeat (first | (with_reducible first | exact HB.out | apply zarad | apply zarab | apply zarac) | exact HB.out)⟩⟩
      case round =>
       clear H'
       try clear c2
       try clear p2
       try clear c3
       try clear c3b0
       try clear c6
       try clear p2
       obtain ⟨zarai, zarag, rfl, HA, HK3, HO_3, HB⟩ := hrel
       cases gk with
       | zero => exact absurd HA.out (by simp [stowageref13_Ids.l1])
       | succ k3 =>
        have H := HA.out
        clear HA
        simp only [stowageref13_Ids.l1] at H
        by_cases c7 : 0 ≤ zaraf
        ·rw [if_pos c7] at H
         have c7b0 : decide (0 ≤ zaraf) = true := decide_eq_true c7
         clear c7
         by_cases c8 : zaraf < (l0.length : Int)
         ·rw [if_pos c8] at H
          have c8b0 : decide (zaraf < (l0.length : Int)) = true := decide_eq_true c8
          clear c8
          by_cases c9 : zarag < (((rd_T36 l0 zaraf).f4).length : Int)
          ·rw [if_pos c9] at H
           have c9b0 : decide (zarag < (((rd_T36 l0 zaraf).f4).length : Int)) = true := decide_eq_true c9
           clear c9
           by_cases c10 : 0 ≤ zarag
           ·rw [if_pos c10] at H
            have c10b0 : decide (0 ≤ zarag) = true := decide_eq_true c10
            clear c10
            by_cases c11 : zarai.length < 8796093022208
            ·rw [if_pos c11] at H
             have LMc11 := zarae c11
             clear c11
             obtain ⟨y351, hy351⟩ : ∃ y_ : List ByteArray, y_ = (zarai ++ [(rd_T74 ((rd_T36 l0 zaraf).f4) zarag).f0]) := ⟨_, rfl⟩
             replace H : (stowageref13_Ids.l1 k3 l0 y351 zaraf (wrap64 (zarag + 1))) = some r := by first | (rw [hy351]; with_reducible exact H) | (have H2_ := (Option.bind_some _ _).symm.trans H; rw [hy351]; with_reducible exact H2_) | (have H2_ := (Option.bind_some _ _).symm.trans H; with_reducible exact H2_) | with_reducible exact H | (rw [hy351]; exact H) | exact H
             have Ny351 := zarae hy351
             clear hy351
             have H' := zarae H
             clear H
             have p348 : 0 ≤ (zaraf : Int) := of_decide_eq_true (by first | (with_reducible assumption) | assumption)
             have q348 : zaraf < (l0.length : Int) := of_decide_eq_true (by first | (with_reducible assumption) | assumption)
             obtain ⟨ad348, A348_4, c348_4, e348, hx348_0, hx348_1, hx348_2, hx348_3, hx348_4, hl348_4, hi348_4⟩ := at_T36 HR0.out zaraf p348 q348
             cases e348
             replace hx348_0 := (HB.out.cell (zaraa w _ hx348_0)).trans hx348_0
             replace hx348_1 := (HB.out.cell (zaraa w _ hx348_1)).trans hx348_1
             replace hx348_2 := (HB.out.cell (zaraa w _ hx348_2)).trans hx348_2
             replace hx348_3 := (HB.out.cell (zaraa w _ hx348_3)).trans hx348_3
             replace hx348_4 := (HB.out.cell (zaraa w _ hx348_4)).trans hx348_4
             have HR348_4 := zarae hi348_4
             have HC348_4 := zarae hl348_4
             clear hi348_4 hl348_4
             replace p348 := eq_true p348
             replace q348 := eq_true q348
             have p349 : 0 ≤ (zaraf : Int) := of_decide_eq_true (by first | (with_reducible assumption) | assumption)
             have q349 : zaraf < (l0.length : Int) := of_decide_eq_true (by first | (with_reducible assumption) | assumption)
             obtain ⟨ad349, A349_4, c349_4, e349, hx349_0, hx349_1, hx349_2, hx349_3, hx349_4, hl349_4, hi349_4⟩ := at_T36 HR0.out zaraf p349 q349
             obtain rfl : ad348 = ad349 := (by injection e349)
             replace hx349_0 := (HB.out.cell (zaraa w _ hx349_0)).trans hx349_0
             replace hx349_1 := (HB.out.cell (zaraa w _ hx349_1)).trans hx349_1
             replace hx349_2 := (HB.out.cell (zaraa w _ hx349_2)).trans hx349_2
             replace hx349_3 := (HB.out.cell (zaraa w _ hx349_3)).trans hx349_3
             replace hx349_4 := (HB.out.cell (zaraa w _ hx349_4)).trans hx349_4
             have HR349_4 := zarae hi349_4
             have HC349_4 := zarae hl349_4
             clear hi349_4 hl349_4
             replace p349 := eq_true p349
             replace q349 := eq_true q349
             have ea_ := Option.some.inj (hx348_4.symm.trans hx349_4)
             injection ea_ with ea_ en_ ec_
             subst ea_
             subst ec_
             clear en_
             have p350 : 0 ≤ (zarag : Int) := of_decide_eq_true (by first | (with_reducible assumption) | assumption)
             have q350 : zarag < (((rd_T36 l0 zaraf).f4).length : Int) := of_decide_eq_true (by first | (with_reducible assumption) | assumption)
             obtain ⟨ad350, e350, hx350_0, hx350_1⟩ := at_T74 HR349_4.out zarag p350 q350
             cases e350
             replace hx350_0 := (HB.out.cell (zaraa w _ hx350_0)).trans hx350_0
             replace hx350_1 := (HB.out.cell (zaraa w _ hx350_1)).trans hx350_1
             replace p350 := eq_true p350
             replace q350 := eq_true q350
             go_wp2_with (first | ((with_reducible refine gate_builtin (b := .append) (xs := #[.tmp 26, .tmp 36]) rfl ?_); at_builtin; refine Kd.R_append Kd.string (w0 := w) w.heap.size rfl (.tmp 26) (.tmp 36) 60 9 (.string ⟨#[]⟩) 16 rfl Try.underlying60 info9 rfl (by decide) (by omega) u3 zarai ((rd_T74 ((rd_T36 l0 zaraf).f4) zarag).f0) [.string ((rd_T74 ((rd_T36 l0 zaraf).f4) zarag).f0)] (fun _ => True) (fun _ => False) rfl rfl ?aP (fun _ hk => hk.elim) ?aF ?aO ?aB ?aS ?aL ?_; (case aP => exact rfl); (case aB => exact (by repeat (first | (with_reducible first | exact HB.out | apply zarad | apply zarab | apply zarac) | exact HB.out))); (case aF => exact (fun _ _ => trivial)); (case aO => exact (by (with_reducible repeat (first | apply Kd.R_alloc | apply Kd.R_drewN | apply Kd.R_drew)); exact HO_3.out)); (case aS => exact (below_size (by repeat (first | (with_reducible first | exact HB.out | apply zarad | apply zarab | apply zarac) | exact HB.out)))); (case aL => have := LMc11.out; omega); intro v352 w12 ho hb hg hat; rw [← Ny351.out] at ho; have n0_ := zarae (hb); have n1_ := zarae (ho); clear HB; clear HO_3; have HB := n0_; have HO353 := n1_; clear n0_ n1_; clear ho hb hg hat))
             go_roundg k3
             case measure => have := HK1.out; have := HJ1.out; have := HK3.out; omega
             case rel => exact ⟨(y351), (wrap64 (zarag + 1)), (by first | rfl | (simp; done) | (simp [*]; done)), H', ⟨by have := HK1.out; have := HJ1.out; have := HK3.out; omega⟩, ⟨by (with_reducible repeat (first | apply Kd.R_alloc | apply Kd.R_drewN | apply Kd.R_drew)); exact HO353.out⟩, ⟨by repeat (first | (with_reducible first | exact HB.out | apply zarad | apply zarab | apply zarac) | exact HB.out)⟩⟩
            ·rw [if_neg c11] at H
             exact absurd H (by simp)
           ·rw [if_neg c10] at H
            exact absurd H (by simp)
          ·rw [if_neg c9] at H
           have c9b0 : decide (zarag < (((rd_T36 l0 zaraf).f4).length : Int)) = false := decide_eq_false c9
           clear c9
           have H' := zarae H
           clear H
           have p348 : 0 ≤ (zaraf : Int) := of_decide_eq_true (by first | (with_reducible assumption) | assumption)
           have q348 : zaraf < (l0.length : Int) := of_decide_eq_true (by first | (with_reducible assumption) | assumption)
           obtain ⟨ad348, A348_4, c348_4, e348, hx348_0, hx348_1, hx348_2, hx348_3, hx348_4, hl348_4, hi348_4⟩ := at_T36 HR0.out zaraf p348 q348
           cases e348
           replace hx348_0 := (HB.out.cell (zaraa w _ hx348_0)).trans hx348_0
           replace hx348_1 := (HB.out.cell (zaraa w _ hx348_1)).trans hx348_1
           replace hx348_2 := (HB.out.cell (zaraa w _ hx348_2)).trans hx348_2
           replace hx348_3 := (HB.out.cell (zaraa w _ hx348_3)).trans hx348_3
           replace hx348_4 := (HB.out.cell (zaraa w _ hx348_4)).trans hx348_4
           have HR348_4 := zarae hi348_4
           have HC348_4 := zarae hl348_4
           clear hi348_4 hl348_4
           replace p348 := eq_true p348
           replace q348 := eq_true q348
           go_wp2
           go_roundg k3
           case measure => have := HK1.out; have := HJ1.out; have := HK3.out; omega
           case rel => exact ⟨(zarai), (wrap64 (zaraf + 1)), (by first | rfl | (simp; done) | (simp [*]; done)), H', ⟨by have := HK1.out; have := HJ1.out; have := HK3.out; omega⟩, ⟨by (with_reducible repeat (first | apply Kd.R_alloc | apply Kd.R_drewN | apply Kd.R_drew)); exact HO_3.out⟩, ⟨by repeat (first | (with_reducible first | exact HB.out | apply zarad | apply zarab | apply zarac) | exact HB.out)⟩⟩
         ·rw [if_neg c8] at H
          exact absurd H (by simp)
        ·rw [if_neg c7] at H
         exact absurd H (by simp)
     ·replace c6 := Bool.eq_false_iff.mpr c6
      subst c6
      have H1 : (some zarah) = some r := by rw [if_neg (show ¬ (false = true) by decide)] at H; exact H
      clear H
      have H := H1
      clear H1
      obtain rfl := Option.some.inj H
      go_wp2
      go_ret
      exact ⟨_, by first | rfl | (simp [errW_none, errW_some] <;> rfl) | (simp [*, errW_none, errW_some] <;> rfl), by (with_reducible repeat (first | apply Kd.R_alloc | apply Kd.R_drewN | apply Kd.R_drew)); exact HO_3.out, by repeat (first | (with_reducible first | exact HB.out | apply zarad | apply zarab | apply zarac) | exact HB.out)⟩

end Go.Proofs.Ytmpnaaegahjfkaa.Q