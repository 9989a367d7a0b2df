

/- A function of the laws, printed: have two unlike extents of texts one id. -/
import Derived.Test.YtpgbkeaaklglkaaGreatDoorDt
import Derived.Test.YtpgbkeaaklglkaaGreatDoorXr
namespace Go.Proofs.YtpgbkeaaklglkaaGreatDoor.Q
open Go.RowKit Go.Proofs.YtpgbkeaaklglkaaGreatDoorW.PrintWords Go.Proofs.YtpgbkeaaklglkaaGreatDoorW.PrintLast Go.Proofs.YtpgbkeaaklglkaaGreatDoorW.PrintMore
attribute [local go_sem] max2_int min2_int max_two min_two max_three min_three max_four min_four   -- for this text's walks alone
set_option linter.unusedVariables false
set_option linter.unusedSimpArgs false
attribute [local go_sem] xor_ones_u8 xor_ones_u16 xor_ones_u32 xor_ones_u64 cell_twice frozen_twice
-- given: refsum.lean
abbrev zeaa := @pw_below_drewN
abbrev zeab := @below_drew1
abbrev zeac := @below_alloc
abbrev zead := @Aside0.mk
/-! ### stowagetop_odd: function 12 -/
mutual
def stowagetop_odd.l0 : Nat → List ByteArray → List ByteArray → List ByteArray → Int → Option (Bool)
 | 0, _, _, _, _ => none
 | k + 1, x0, x3, x4, x5 => if x5 < (x0.length : Int) then (if 0 ≤ x5 then ((stowageref06_Cut.f k (rdOf ByteArray.empty x0 x5) 4096).bind fun t392 => (stowagetop_odd.l1 k x0 x3 x4 x5 t392 0)) else (none)) else (some false)
def stowagetop_odd.l1 : Nat → List ByteArray → List ByteArray → List ByteArray → Int → List ByteArray → Int → Option (Bool)
 | 0, _, _, _, _, _, _ => none
 | k + 1, x0, x3, x4, x5, x6, x7 => if x7 < (x6.length : Int) then (if 0 ≤ x7 then ((stowageref06_ID.f k (rdOf ByteArray.empty x6 x7)).bind fun t396 => (stowagetop_odd.l2 k x0 x3 x4 x5 x6 x7 t396 0)) else (none)) else (stowagetop_odd.l0 k x0 x3 x4 (wrap64 (x5 + 1)))
def stowagetop_odd.l2 : Nat → List ByteArray → List ByteArray → List ByteArray → Int → List ByteArray → Int → ByteArray → Int → Option (Bool)
 | 0, _, _, _, _, _, _, _, _ => none
 | k + 1, x0, x3, x4, x5, x6, x7, x8, x9 => if x9 < (x3.length : Int) then (if 0 ≤ x9 then (if x9 < (x4.length : Int) then (if (rdOf ByteArray.empty x4 x9).toList = x8.toList then (if 0 ≤ x7 then (if x7 < (x6.length : Int) then (if (rdOf ByteArray.empty x3 x9).toList = (rdOf ByteArray.empty x6 x7).toList then (stowagetop_odd.l2 k x0 x3 x4 x5 x6 x7 x8 (wrap64 (x9 + 1))) else (some true)) else (none)) else (none)) else (stowagetop_odd.l2 k x0 x3 x4 x5 x6 x7 x8 (wrap64 (x9 + 1)))) else (none)) else (none)) else (if 0 ≤ x7 then (if x7 < (x6.length : Int) then (if x3.length < 8796093022208 then (if x4.length < 8796093022208 then (stowagetop_odd.l1 k x0 (x3 ++ [rdOf ByteArray.empty x6 x7]) (x4 ++ [x8]) x5 x6 (wrap64 (x7 + 1))) else (none)) else (none)) else (none)) else (none))
end
def stowagetop_odd.f (k : Nat) (l0 : List ByteArray) : Option (Bool) := stowagetop_odd.l0 k l0 ([] : List ByteArray) ([] : List ByteArray) 0
theorem stowagetop_odd.mono_l : ∀ k, (∀ y0 y1 y2 y3, LeO (stowagetop_odd.l0 k y0 y1 y2 y3) (stowagetop_odd.l0 (k + 1) y0 y1 y2 y3)) ∧ (∀ y0 y1 y2 y3 y4 y5, LeO (stowagetop_odd.l1 k y0 y1 y2 y3 y4 y5) (stowagetop_odd.l1 (k + 1) y0 y1 y2 y3 y4 y5)) ∧ (∀ y0 y1 y2 y3 y4 y5 y6 y7, LeO (stowagetop_odd.l2 k y0 y1 y2 y3 y4 y5 y6 y7) (stowagetop_odd.l2 (k + 1) y0 y1 y2 y3 y4 y5 y6 y7))
 | 0 => ⟨fun _ _ _ _ r h => by simp [stowagetop_odd.l0] at h, fun _ _ _ _ _ _ r h => by simp [stowagetop_odd.l1] at h, fun _ _ _ _ _ _ _ _ r h => by simp [stowagetop_odd.l2] at h⟩
 | k + 1 => by
  obtain ⟨ih0, ih1, ih2⟩ := stowagetop_odd.mono_l k
  refine ⟨?_, ?_, ?_⟩
  ·intro y0 y1 y2 y3
   unfold stowagetop_odd.l0
   repeat' first
   | (with_reducible exact ih0 _ _ _ _)
   | (with_reducible exact ih1 _ _ _ _ _ _)
   | (with_reducible exact ih2 _ _ _ _ _ _ _ _)
   | (with_reducible exact stowageref06_Cut.mono _ _ _)
   | (with_reducible exact stowageref06_ID.mono _ _)
   | (with_reducible exact LeO.refl _)
   | (with_reducible exact LeO.none _)
   | (with_reducible refine LeO.ite ?_ ?_)
   | (with_reducible refine LeO.bind ?_ (fun _ => ?_))
   | exact ih0 _ _ _ _
   | exact ih1 _ _ _ _ _ _
   | exact ih2 _ _ _ _ _ _ _ _
   | exact stowageref06_Cut.mono _ _ _
   | exact stowageref06_ID.mono _ _
   | exact LeO.none _
   | refine LeO.ite ?_ ?_
   | refine LeO.bind ?_ (fun _ => ?_)
  ·intro y0 y1 y2 y3 y4 y5
   unfold stowagetop_odd.l1
   repeat' first
   | (with_reducible exact ih0 _ _ _ _)
   | (with_reducible exact ih1 _ _ _ _ _ _)
   | (with_reducible exact ih2 _ _ _ _ _ _ _ _)
   | (with_reducible exact stowageref06_Cut.mono _ _ _)
   | (with_reducible exact stowageref06_ID.mono _ _)
   | (with_reducible exact LeO.refl _)
   | (with_reducible exact LeO.none _)
   | (with_reducible refine LeO.ite ?_ ?_)
   | (with_reducible refine LeO.bind ?_ (fun _ => ?_))
   | exact ih0 _ _ _ _
   | exact ih1 _ _ _ _ _ _
   | exact ih2 _ _ _ _ _ _ _ _
   | exact stowageref06_Cut.mono _ _ _
   | exact stowageref06_ID.mono _ _
   | exact LeO.none _
   | refine LeO.ite ?_ ?_
   | refine LeO.bind ?_ (fun _ => ?_)
  ·intro y0 y1 y2 y3 y4 y5 y6 y7
   unfold stowagetop_odd.l2
   repeat' first
   | (with_reducible exact ih0 _ _ _ _)
   | (with_reducible exact ih1 _ _ _ _ _ _)
   | (with_reducible exact ih2 _ _ _ _ _ _ _ _)
   | (with_reducible exact stowageref06_Cut.mono _ _ _)
   | (with_reducible exact stowageref06_ID.mono _ _)
   | (with_reducible exact LeO.refl _)
   | (with_reducible exact LeO.none _)
   | (with_reducible refine LeO.ite ?_ ?_)
   | (with_reducible refine LeO.bind ?_ (fun _ => ?_))
   | exact ih0 _ _ _ _
   | exact ih1 _ _ _ _ _ _
   | exact ih2 _ _ _ _ _ _ _ _
   | exact stowageref06_Cut.mono _ _ _
   | exact stowageref06_ID.mono _ _
   | exact LeO.none _
   | refine LeO.ite ?_ ?_
   | refine LeO.bind ?_ (fun _ => ?_)
theorem stowagetop_odd.mono : ∀ a0 k, LeO (stowagetop_odd.f k a0) (stowagetop_odd.f (k + 1) a0) := by
 intro a0 k
 obtain ⟨ih0, ih1, ih2⟩ := stowagetop_odd.mono_l k
 unfold stowagetop_odd.f
 repeat' first
   | (with_reducible exact ih0 _ _ _ _)
   | (with_reducible exact ih1 _ _ _ _ _ _)
   | (with_reducible exact ih2 _ _ _ _ _ _ _ _)
   | (with_reducible exact stowageref06_Cut.mono _ _ _)
   | (with_reducible exact stowageref06_ID.mono _ _)
   | (with_reducible exact LeO.refl _)
   | (with_reducible exact LeO.none _)
   | (with_reducible refine LeO.ite ?_ ?_)
   | (with_reducible refine LeO.bind ?_ (fun _ => ?_))
   | exact ih0 _ _ _ _
   | exact ih1 _ _ _ _ _ _
   | exact ih2 _ _ _ _ _ _ _ _
   | exact stowageref06_Cut.mono _ _ _
   | exact stowageref06_ID.mono _ _
   | exact LeO.none _
   | refine LeO.ite ?_ ?_
   | refine LeO.bind ?_ (fun _ => ?_)
set_option maxHeartbeats 8000000 in
set_option maxRecDepth 100000 in
theorem stowagetop_odd.calls (k : Nat) (A0 : Option Addr) (c0 : Nat) (l0 : List ByteArray) (r : Bool) (w : World) (hr0 : Kd.C Kd.string w A0 l0.length l0) (hc0 : l0.length ≤ c0) (h : stowagetop_odd.f k l0 = some r) :
  Calls Tryz.prog 12 #[.slice A0 l0.length c0] w fun e w' => e = .returned (.bool r) ∧ Below w.heap.size w w' := by
 have HR0 := zead hr0
 have HC0 := zead hc0
 clear hr0 hc0
 have HB := zead (Below.refl w.heap.size w)
 have H : (stowagetop_odd.l0 k l0 ([] : List ByteArray) ([] : List ByteArray) 0) = some r := h
 clear h
 have H' := zead H
 clear H
 go_enter Tryz.func12, Tryz.ntmps12
 go_wp2
 repeat (go_quiet (fail); try go_wp2)
 go_loopg [3, 4, 5] k (fun kq v3 v4 v5 w' => ∃ (zeaj : List ByteArray) (zeak : List ByteArray) (zeai : Int), v5 = .int .i64 zeai ∧ Aside0 (stowagetop_odd.l0 kq l0 zeaj zeak zeai = some r) ∧ Aside0 (kq ≤ k) ∧ Aside0 (Kd.R Kd.string 9 w' w.heap.size (fun k_ => some k_ ≠ (v4 : Value).ownBlock) v3 zeaj) ∧ Aside0 (Kd.R Kd.string 9 w' w.heap.size (fun k_ => some k_ ≠ (v3 : Value).ownBlock) v4 zeak) ∧ Aside0 (Below w.heap.size w w'))
 case atStart => exact ⟨(([] : List ByteArray)), (([] : List ByteArray)), (0), (by first | rfl | (simp; done) | (simp [*]; done)), H', ⟨Nat.le_refl _⟩, ⟨by first | exact Kd.R_nil _ _ _ _ _ | exact Kd.N_nil _ _ _ _ _ | exact Kd.V_nil _ _ _ _ _ | exact Kd.Q_nil _ _ _ _ _ | exact Kd.S_nil _ _ _ _ _⟩, ⟨by first | exact Kd.R_nil _ _ _ _ _ | exact Kd.N_nil _ _ _ _ _ | exact Kd.V_nil _ _ _ _ _ | exact Kd.Q_nil _ _ _ _ _ | exact Kd.S_nil _ _ _ _ _⟩, ⟨by repeat (first | (with_reducible first | exact HB.out | apply zeac | apply zeaa | apply zeab) | exact HB.out)⟩⟩
 case round =>
  clear H'
  try clear c1
  obtain ⟨zeaj, zeak, zeai, rfl, HA, HK1, HO_3, HO_4, HB⟩ := hrel
  cases gk with
  | zero => exact absurd HA.out (by simp [stowagetop_odd.l0])
  | succ k1 =>
   have H := HA.out
   clear HA
   simp only [stowagetop_odd.l0] at H
   by_cases c2 : zeai < (l0.length : Int)
   ·rw [if_pos c2] at H
    have c2b0 : decide (zeai < (l0.length : Int)) = true := decide_eq_true c2
    clear c2
    by_cases c3 : 0 ≤ zeai
    ·rw [if_pos c3] at H
     have c3b0 : decide (0 ≤ zeai) = true := decide_eq_true c3
     clear c3
     replace H := Option.bind_eq_some_iff.mp H
     obtain ⟨t392, A40, H⟩ := H
     replace H : (stowagetop_odd.l1 k1 l0 zeaj zeak zeai t392 0) = some r := H
     have A4 := zead A40
     clear A40
     have H' := zead H
     clear H
     have p391 : 0 ≤ (zeai : Int) := of_decide_eq_true (by first | (with_reducible assumption) | assumption)
     have q391 : zeai < (l0.length : Int) := of_decide_eq_true (by first | (with_reducible assumption) | assumption)
     obtain ⟨ad391, e391, hx391_0⟩ := Kd.at_string HR0.out zeai p391 q391
     cases e391
     replace hx391_0 := (HB.out.cell (World.block_lt_of_cell? w _ hx391_0)).trans hx391_0
     replace p391 := eq_true p391
     replace q391 := eq_true q391
     go_wp2_with (first | (go_at_call 30; (with_reducible refine (stowageref06_Cut.calls k1 (rdOf ByteArray.empty l0 zeai) 4096 t392 _ A4.out).mono ?_); rintro e w5 ⟨v393, rfl, ho0, hb⟩; have n0_ := zead (Kd.R_elder' (by (with_reducible repeat (first | apply Kd.R_alloc | apply Kd.R_drewN | apply Kd.R_drew)); exact HO_3.out) (Kd.R_base ho0) hb); have n1_ := zead (Kd.R_elder' (by (with_reducible repeat (first | apply Kd.R_alloc | apply Kd.R_drewN | apply Kd.R_drew)); exact HO_4.out) (Kd.R_base ho0) hb); have n2_ := zead (Kd.R_lower (Kd.R_new' (Kd.R_new' ho0 (Kd.R_lt (by (with_reducible repeat (first | apply Kd.R_alloc | apply Kd.R_drewN | apply Kd.R_drew)); exact HO_3.out))) (Kd.R_lt (by (with_reducible repeat (first | apply Kd.R_alloc | apply Kd.R_drewN | apply Kd.R_drew)); exact HO_4.out))) (below_size (by repeat (first | (with_reducible first | exact HB.out | apply zeac | apply zeaa | apply zeab) | exact HB.out)))); have n3_ := zead (below_step (by repeat (first | (with_reducible first | exact HB.out | apply zeac | apply zeaa | apply zeab) | exact HB.out)) hb); clear HO_3; clear HO_4; clear HB; have HO_3 := n0_; have HO_4 := n1_; have HO394 := n2_; have HB := n3_; clear n0_ n1_ n2_ n3_; (try clear hb); (try clear hk); (try clear hi); (try clear ho0)))
     repeat (go_quiet (first | (go_at_call 30; (with_reducible refine (stowageref06_Cut.calls k1 (rdOf ByteArray.empty l0 zeai) 4096 t392 _ A4.out).mono ?_); rintro e w5 ⟨v393, rfl, ho0, hb⟩; have n0_ := zead (Kd.R_elder' (by (with_reducible repeat (first | apply Kd.R_alloc | apply Kd.R_drewN | apply Kd.R_drew)); exact HO_3.out) (Kd.R_base ho0) hb); have n1_ := zead (Kd.R_elder' (by (with_reducible repeat (first | apply Kd.R_alloc | apply Kd.R_drewN | apply Kd.R_drew)); exact HO_4.out) (Kd.R_base ho0) hb); have n2_ := zead (Kd.R_lower (Kd.R_new' (Kd.R_new' ho0 (Kd.R_lt (by (with_reducible repeat (first | apply Kd.R_alloc | apply Kd.R_drewN | apply Kd.R_drew)); exact HO_3.out))) (Kd.R_lt (by (with_reducible repeat (first | apply Kd.R_alloc | apply Kd.R_drewN | apply Kd.R_drew)); exact HO_4.out))) (below_size (by repeat (first | (with_reducible first | exact HB.out | apply zeac | apply zeaa | apply zeab) | exact HB.out)))); have n3_ := zead (below_step (by repeat (first | (with_reducible first | exact HB.out | apply zeac | apply zeaa | apply zeab) | exact HB.out)) hb); clear HO_3; clear HO_4; clear HB; have HO_3 := n0_; have HO_4 := n1_; have HO394 := n2_; have HB := n3_; clear n0_ n1_ n2_ n3_; (try clear hb); (try clear hk); (try clear hi); (try clear ho0))); try go_wp2_with (first | (go_at_call 30; (with_reducible refine (stowageref06_Cut.calls k1 (rdOf ByteArray.empty l0 zeai) 4096 t392 _ A4.out).mono ?_); rintro e w5 ⟨v393, rfl, ho0, hb⟩; have n0_ := zead (Kd.R_elder' (by (with_reducible repeat (first | apply Kd.R_alloc | apply Kd.R_drewN | apply Kd.R_drew)); exact HO_3.out) (Kd.R_base ho0) hb); have n1_ := zead (Kd.R_elder' (by (with_reducible repeat (first | apply Kd.R_alloc | apply Kd.R_drewN | apply Kd.R_drew)); exact HO_4.out) (Kd.R_base ho0) hb); have n2_ := zead (Kd.R_lower (Kd.R_new' (Kd.R_new' ho0 (Kd.R_lt (by (with_reducible repeat (first | apply Kd.R_alloc | apply Kd.R_drewN | apply Kd.R_drew)); exact HO_3.out))) (Kd.R_lt (by (with_reducible repeat (first | apply Kd.R_alloc | apply Kd.R_drewN | apply Kd.R_drew)); exact HO_4.out))) (below_size (by repeat (first | (with_reducible first | exact HB.out | apply zeac | apply zeaa | apply zeab) | exact HB.out)))); have n3_ := zead (below_step (by repeat (first | (with_reducible first | exact HB.out | apply zeac | apply zeaa | apply zeab) | exact HB.out)) hb); clear HO_3; clear HO_4; clear HB; have HO_3 := n0_; have HO_4 := n1_; have HO394 := n2_; have HB := n3_; clear n0_ n1_ n2_ n3_; (try clear hb); (try clear hk); (try clear hi); (try clear ho0))))
     go_loopg [3, 4, 7] k1 (fun kq v3 v4 v7 w' => ∃ (zeag : List ByteArray) (zeah : List ByteArray) (zeae : Int), v7 = .int .i64 zeae ∧ Aside0 (stowagetop_odd.l1 kq l0 zeag zeah zeai t392 zeae = some r) ∧ Aside0 (kq ≤ k1) ∧ Aside0 (Kd.R Kd.string 9 w' w.heap.size (fun k_ => some k_ ≠ (v4 : Value).ownBlock ∧ some k_ ≠ (v393 : Value).ownBlock) v3 zeag) ∧ Aside0 (Kd.R Kd.string 9 w' w.heap.size (fun k_ => some k_ ≠ (v3 : Value).ownBlock ∧ some k_ ≠ (v393 : Value).ownBlock) v4 zeah) ∧ Aside0 (Kd.R Kd.string 9 w' w.heap.size (fun k_ => some k_ ≠ (v3 : Value).ownBlock ∧ some k_ ≠ (v4 : Value).ownBlock) v393 t392) ∧ Aside0 (Below w.heap.size w w'))
     case atStart => exact ⟨(zeaj), (zeak), (0), (by first | rfl | (simp; done) | (simp [*]; done)), H', ⟨Nat.le_refl _⟩, ⟨by (with_reducible repeat (first | apply Kd.R_alloc | apply Kd.R_drewN | apply Kd.R_drew)); exact HO_3.out⟩, ⟨by (with_reducible repeat (first | apply Kd.R_alloc | apply Kd.R_drewN | apply Kd.R_drew)); exact HO_4.out⟩, ⟨by (with_reducible repeat (first | apply Kd.R_alloc | apply Kd.R_drewN | apply Kd.R_drew)); exact Kd.R_mono HO394.out (fun _ hk => ⟨hk.1.2, hk.2⟩)⟩, ⟨by repeat (first | (with_reducible first | exact HB.out | apply zeac | apply zeaa | apply zeab) | exact HB.out)⟩⟩
     case round =>
      clear H'
      try clear c1
      try clear c2
      try clear c2b0
      try clear p2
      try clear c3
      try clear c3b0
      try clear p3
      try clear q3
      try clear hx3
      try clear hx391_0
      try clear p391
      try clear q391
      obtain ⟨zeag, zeah, zeae, rfl, HA, HK2, HO_3, HO_4, HO_6, HB⟩ := hrel
      cases gk with
      | zero => exact absurd HA.out (by simp [stowagetop_odd.l1])
      | succ k2 =>
       have H := HA.out
       clear HA
       simp only [stowagetop_odd.l1] at H
       by_cases c6 : zeae < (t392.length : Int)
       ·rw [if_pos c6] at H
        have c6b0 : decide (zeae < (t392.length : Int)) = true := decide_eq_true c6
        clear c6
        by_cases c7 : 0 ≤ zeae
        ·rw [if_pos c7] at H
         have c7b0 : decide (0 ≤ zeae) = true := decide_eq_true c7
         clear c7
         replace H := Option.bind_eq_some_iff.mp H
         obtain ⟨t396, A80, H⟩ := H
         replace H : (stowagetop_odd.l2 k2 l0 zeag zeah zeai t392 zeae t396 0) = some r := H
         have A8 := zead A80
         clear A80
         have H' := zead H
         clear H
         obtain ⟨Ao9, co9, eo9⟩ := Kd.R_slice HO_6.out
         subst eo9
         have p395 : 0 ≤ (zeae : Int) := of_decide_eq_true (by first | (with_reducible assumption) | assumption)
         have q395 : zeae < (t392.length : Int) := of_decide_eq_true (by first | (with_reducible assumption) | assumption)
         obtain ⟨ad395, e395, hx395_0⟩ := Kd.at_string (Kd.R_reads' HO_6.out).2.2 zeae p395 q395
         cases e395
         replace p395 := eq_true p395
         replace q395 := eq_true q395
         go_wp2_with (first | (go_at_call 31; (with_reducible refine (stowageref06_ID.calls k2 (rdOf ByteArray.empty t392 zeae) t396 _ A8.out).mono ?_); rintro e w10 ⟨rfl, hb⟩; have n0_ := zead (Kd.R_below (by (with_reducible repeat (first | apply Kd.R_alloc | apply Kd.R_drewN | apply Kd.R_drew)); exact HO_3.out) hb); have n1_ := zead (Kd.R_below (by (with_reducible repeat (first | apply Kd.R_alloc | apply Kd.R_drewN | apply Kd.R_drew)); exact HO_4.out) hb); have n2_ := zead (Kd.R_below (by (with_reducible repeat (first | apply Kd.R_alloc | apply Kd.R_drewN | apply Kd.R_drew)); exact HO_6.out) hb); have n3_ := zead (below_step (by repeat (first | (with_reducible first | exact HB.out | apply zeac | apply zeaa | apply zeab) | exact HB.out)) hb); clear HO_3; clear HO_4; clear HO_6; clear HB; have HO_3 := n0_; have HO_4 := n1_; have HO_6 := n2_; have HB := n3_; clear n0_ n1_ n2_ n3_; (try clear hb); (try clear hk); (try clear hi)))
         repeat (go_quiet (first | (go_at_call 31; (with_reducible refine (stowageref06_ID.calls k2 (rdOf ByteArray.empty t392 zeae) t396 _ A8.out).mono ?_); rintro e w10 ⟨rfl, hb⟩; have n0_ := zead (Kd.R_below (by (with_reducible repeat (first | apply Kd.R_alloc | apply Kd.R_drewN | apply Kd.R_drew)); exact HO_3.out) hb); have n1_ := zead (Kd.R_below (by (with_reducible repeat (first | apply Kd.R_alloc | apply Kd.R_drewN | apply Kd.R_drew)); exact HO_4.out) hb); have n2_ := zead (Kd.R_below (by (with_reducible repeat (first | apply Kd.R_alloc | apply Kd.R_drewN | apply Kd.R_drew)); exact HO_6.out) hb); have n3_ := zead (below_step (by repeat (first | (with_reducible first | exact HB.out | apply zeac | apply zeaa | apply zeab) | exact HB.out)) hb); clear HO_3; clear HO_4; clear HO_6; clear HB; have HO_3 := n0_; have HO_4 := n1_; have HO_6 := n2_; have HB := n3_; clear n0_ n1_ n2_ n3_; (try clear hb); (try clear hk); (try clear hi))); try go_wp2_with (first | (go_at_call 31; (with_reducible refine (stowageref06_ID.calls k2 (rdOf ByteArray.empty t392 zeae) t396 _ A8.out).mono ?_); rintro e w10 ⟨rfl, hb⟩; have n0_ := zead (Kd.R_below (by (with_reducible repeat (first | apply Kd.R_alloc | apply Kd.R_drewN | apply Kd.R_drew)); exact HO_3.out) hb); have n1_ := zead (Kd.R_below (by (with_reducible repeat (first | apply Kd.R_alloc | apply Kd.R_drewN | apply Kd.R_drew)); exact HO_4.out) hb); have n2_ := zead (Kd.R_below (by (with_reducible repeat (first | apply Kd.R_alloc | apply Kd.R_drewN | apply Kd.R_drew)); exact HO_6.out) hb); have n3_ := zead (below_step (by repeat (first | (with_reducible first | exact HB.out | apply zeac | apply zeaa | apply zeab) | exact HB.out)) hb); clear HO_3; clear HO_4; clear HO_6; clear HB; have HO_3 := n0_; have HO_4 := n1_; have HO_6 := n2_; have HB := n3_; clear n0_ n1_ n2_ n3_; (try clear hb); (try clear hk); (try clear hi))))
         go_loopg [9] k2 (fun kq v9 w' => ∃ (zeaf : Int), v9 = .int .i64 zeaf ∧ Aside0 (stowagetop_odd.l2 kq l0 zeag zeah zeai t392 zeae t396 zeaf = some r) ∧ Aside0 (kq ≤ k2) ∧ Aside0 (Kd.R Kd.string 9 w' w.heap.size (fun k_ => some k_ ≠ (u4 : Value).ownBlock ∧ some k_ ≠ ((.slice (some ad395) t392.length co9) : Value).ownBlock) u3 zeag) ∧ Aside0 (Kd.R Kd.string 9 w' w.heap.size (fun k_ => some k_ ≠ (u3 : Value).ownBlock ∧ some k_ ≠ ((.slice (some ad395) t392.length co9) : Value).ownBlock) u4 zeah) ∧ Aside0 (Kd.R Kd.string 9 w' w.heap.size (fun k_ => some k_ ≠ (u3 : Value).ownBlock ∧ some k_ ≠ (u4 : Value).ownBlock) (.slice (some ad395) t392.length co9) t392) ∧ Aside0 (Below w.heap.size w w'))
         case atStart => exact ⟨(0), (by first | rfl | (simp; done) | (simp [*]; done)), H', ⟨Nat.le_refl _⟩, ⟨by (with_reducible repeat (first | apply Kd.R_alloc | apply Kd.R_drewN | apply Kd.R_drew)); exact HO_3.out⟩, ⟨by (with_reducible repeat (first | apply Kd.R_alloc | apply Kd.R_drewN | apply Kd.R_drew)); exact HO_4.out⟩, ⟨by (with_reducible repeat (first | apply Kd.R_alloc | apply Kd.R_drewN | apply Kd.R_drew)); exact HO_6.out⟩, ⟨by repeat (first | (with_reducible first | exact HB.out | apply zeac | apply zeaa | apply zeab) | exact HB.out)⟩⟩
         case round =>
          clear H'
          try clear c1
          try clear c2
          try clear c2b0
          try clear p2
          try clear c3
          try clear c3b0
          try clear p3
          try clear q3
          try clear hx3
          try clear c6
          try clear c6b0
          try clear c7
          try clear c7b0
          try clear hx391_0
          try clear hx395_0
          try clear p2
          try clear p3
          try clear p391
          try clear p395
          try clear q3
          try clear q391
          try clear q395
          obtain ⟨zeaf, rfl, HA, HK3, HO_3, HO_4, HO_6, HB⟩ := hrel
          cases gk with
          | zero => exact absurd HA.out (by simp [stowagetop_odd.l2])
          | succ k3 =>
           have H := HA.out
           clear HA
           simp only [stowagetop_odd.l2] at H
           by_cases c11 : zeaf < (zeag.length : Int)
           ·rw [if_pos c11] at H
            have c11b0 : decide (zeaf < (zeag.length : Int)) = true := decide_eq_true c11
            clear c11
            by_cases c12 : 0 ≤ zeaf
            ·rw [if_pos c12] at H
             have c12b0 : decide (0 ≤ zeaf) = true := decide_eq_true c12
             clear c12
             by_cases c13 : zeaf < (zeah.length : Int)
             ·rw [if_pos c13] at H
              have c13b0 : decide (zeaf < (zeah.length : Int)) = true := decide_eq_true c13
              clear c13
              by_cases c14 : (rdOf ByteArray.empty zeah zeaf).toList = t396.toList
              ·rw [if_pos c14] at H
               have c14b0 : ((rdOf ByteArray.empty zeah zeaf).toList == t396.toList) = true := beq_iff_eq.mpr c14
               have c14b1 : ((rdOf ByteArray.empty zeah zeaf).toList != t396.toList) = false := bne_eq_false_iff_eq.mpr c14
               clear c14
               by_cases c15 : 0 ≤ zeae
               ·rw [if_pos c15] at H
                have c15b0 : decide (0 ≤ zeae) = true := decide_eq_true c15
                clear c15
                by_cases c16 : zeae < (t392.length : Int)
                ·rw [if_pos c16] at H
                 have c16b0 : decide (zeae < (t392.length : Int)) = true := decide_eq_true c16
                 clear c16
                 by_cases c17 : (rdOf ByteArray.empty zeag zeaf).toList = (rdOf ByteArray.empty t392 zeae).toList
                 ·rw [if_pos c17] at H
                  have c17b0 : ((rdOf ByteArray.empty zeag zeaf).toList == (rdOf ByteArray.empty t392 zeae).toList) = true := beq_iff_eq.mpr c17
                  have c17b1 : ((rdOf ByteArray.empty zeag zeaf).toList != (rdOf ByteArray.empty t392 zeae).toList) = false := bne_eq_false_iff_eq.mpr c17
                  clear c17
                  have H' := zead H
                  clear H
                  obtain ⟨Ao18, co18, eo18⟩ := Kd.R_slice HO_3.out
                  subst eo18
                  obtain ⟨Ao19, co19, eo19⟩ := Kd.R_slice HO_4.out
                  subst eo19
                  have p397 : 0 ≤ (zeaf : Int) := of_decide_eq_true (by first | (with_reducible assumption) | assumption)
                  have q397 : zeaf < (zeah.length : Int) := of_decide_eq_true (by first | (with_reducible assumption) | assumption)
                  obtain ⟨ad397, e397, hx397_0⟩ := Kd.at_string (Kd.R_reads' HO_4.out).2.2 zeaf p397 q397
                  cases e397
                  replace p397 := eq_true p397
                  replace q397 := eq_true q397
                  have p398 : 0 ≤ (zeaf : Int) := of_decide_eq_true (by first | (with_reducible assumption) | assumption)
                  have q398 : zeaf < (zeag.length : Int) := of_decide_eq_true (by first | (with_reducible assumption) | assumption)
                  obtain ⟨ad398, e398, hx398_0⟩ := Kd.at_string (Kd.R_reads' HO_3.out).2.2 zeaf p398 q398
                  cases e398
                  replace p398 := eq_true p398
                  replace q398 := eq_true q398
                  have p399 : 0 ≤ (zeae : Int) := of_decide_eq_true (by first | (with_reducible assumption) | assumption)
                  have q399 : zeae < (t392.length : Int) := of_decide_eq_true (by first | (with_reducible assumption) | assumption)
                  obtain ⟨ad399, e399, hx399_0⟩ := Kd.at_string (Kd.R_reads' HO_6.out).2.2 zeae p399 q399
                  obtain rfl : ad395 = ad399 := (by injection e399)
                  replace p399 := eq_true p399
                  replace q399 := eq_true q399
                  go_wp2
                  repeat (go_quiet (fail); try go_wp2)
                  go_roundg k3
                  case measure => have := HK1.out; have := HK2.out; have := HK3.out; omega
                  case rel => exact ⟨(wrap64 (zeaf + 1)), (by first | rfl | (simp; done) | (simp [*]; done)), H', ⟨by have := HK1.out; have := HK2.out; have := HK3.out; omega⟩, ⟨by (with_reducible repeat (first | apply Kd.R_alloc | apply Kd.R_drewN | apply Kd.R_drew)); exact HO_3.out⟩, ⟨by (with_reducible repeat (first | apply Kd.R_alloc | apply Kd.R_drewN | apply Kd.R_drew)); exact HO_4.out⟩, ⟨by (with_reducible repeat (first | apply Kd.R_alloc | apply Kd.R_drewN | apply Kd.R_drew)); exact HO_6.out⟩, ⟨by repeat (first | (with_reducible first | exact HB.out | apply zeac | apply zeaa | apply zeab) | exact HB.out)⟩⟩
                 ·rw [if_neg c17] at H
                  have c17b0 : ((rdOf ByteArray.empty zeag zeaf).toList == (rdOf ByteArray.empty t392 zeae).toList) = false := beq_eq_false_iff_ne.mpr c17
                  have c17b1 : ((rdOf ByteArray.empty zeag zeaf).toList != (rdOf ByteArray.empty t392 zeae).toList) = true := bne_iff_ne.mpr c17
                  obtain rfl := Option.some.inj H
                  obtain ⟨Ao20, co20, eo20⟩ := Kd.R_slice HO_3.out
                  subst eo20
                  obtain ⟨Ao21, co21, eo21⟩ := Kd.R_slice HO_4.out
                  subst eo21
                  have p397 : 0 ≤ (zeaf : Int) := of_decide_eq_true (by first | (with_reducible assumption) | assumption)
                  have q397 : zeaf < (zeah.length : Int) := of_decide_eq_true (by first | (with_reducible assumption) | assumption)
                  obtain ⟨ad397, e397, hx397_0⟩ := Kd.at_string (Kd.R_reads' HO_4.out).2.2 zeaf p397 q397
                  cases e397
                  replace p397 := eq_true p397
                  replace q397 := eq_true q397
                  have p398 : 0 ≤ (zeaf : Int) := of_decide_eq_true (by first | (with_reducible assumption) | assumption)
                  have q398 : zeaf < (zeag.length : Int) := of_decide_eq_true (by first | (with_reducible assumption) | assumption)
                  obtain ⟨ad398, e398, hx398_0⟩ := Kd.at_string (Kd.R_reads' HO_3.out).2.2 zeaf p398 q398
                  cases e398
                  replace p398 := eq_true p398
                  replace q398 := eq_true q398
                  have p399 : 0 ≤ (zeae : Int) := of_decide_eq_true (by first | (with_reducible assumption) | assumption)
                  have q399 : zeae < (t392.length : Int) := of_decide_eq_true (by first | (with_reducible assumption) | assumption)
                  obtain ⟨ad399, e399, hx399_0⟩ := Kd.at_string (Kd.R_reads' HO_6.out).2.2 zeae p399 q399
                  obtain rfl : ad395 = ad399 := (by injection e399)
                  replace p399 := eq_true p399
                  replace q399 := eq_true q399
                  go_wp2
                  repeat (go_quiet (fail); try go_wp2)
                  go_ret
                  exact ⟨by first | rfl | (simp [errW_none, errW_some] <;> rfl) | (simp [*, errW_none, errW_some] <;> rfl), by repeat (first | (with_reducible first | exact HB.out | apply zeac | apply zeaa | apply zeab) | exact HB.out)⟩
                ·rw [if_neg c16] at H
                 exact absurd H (by simp)
               ·rw [if_neg c15] at H
                exact absurd H (by simp)
              ·rw [if_neg c14] at H
               have c14b0 : ((rdOf ByteArray.empty zeah zeaf).toList == t396.toList) = false := beq_eq_false_iff_ne.mpr c14
               have c14b1 : ((rdOf ByteArray.empty zeah zeaf).toList != t396.toList) = true := bne_iff_ne.mpr c14
               have H' := zead H
               clear H
               obtain ⟨Ao22, co22, eo22⟩ := Kd.R_slice HO_3.out
               subst eo22
               obtain ⟨Ao23, co23, eo23⟩ := Kd.R_slice HO_4.out
               subst eo23
               have p397 : 0 ≤ (zeaf : Int) := of_decide_eq_true (by first | (with_reducible assumption) | assumption)
               have q397 : zeaf < (zeah.length : Int) := of_decide_eq_true (by first | (with_reducible assumption) | assumption)
               obtain ⟨ad397, e397, hx397_0⟩ := Kd.at_string (Kd.R_reads' HO_4.out).2.2 zeaf p397 q397
               cases e397
               replace p397 := eq_true p397
               replace q397 := eq_true q397
               go_wp2
               repeat (go_quiet (fail); try go_wp2)
               go_roundg k3
               case measure => have := HK1.out; have := HK2.out; have := HK3.out; omega
               case rel => exact ⟨(wrap64 (zeaf + 1)), (by first | rfl | (simp; done) | (simp [*]; done)), H', ⟨by have := HK1.out; have := HK2.out; have := HK3.out; omega⟩, ⟨by (with_reducible repeat (first | apply Kd.R_alloc | apply Kd.R_drewN | apply Kd.R_drew)); exact HO_3.out⟩, ⟨by (with_reducible repeat (first | apply Kd.R_alloc | apply Kd.R_drewN | apply Kd.R_drew)); exact HO_4.out⟩, ⟨by (with_reducible repeat (first | apply Kd.R_alloc | apply Kd.R_drewN | apply Kd.R_drew)); exact HO_6.out⟩, ⟨by repeat (first | (with_reducible first | exact HB.out | apply zeac | apply zeaa | apply zeab) | exact HB.out)⟩⟩
             ·rw [if_neg c13] at H
              exact absurd H (by simp)
            ·rw [if_neg c12] at H
             exact absurd H (by simp)
           ·rw [if_neg c11] at H
            have c11b0 : decide (zeaf < (zeag.length : Int)) = false := decide_eq_false c11
            clear c11
            by_cases c24 : 0 ≤ zeae
            ·rw [if_pos c24] at H
             have c24b0 : decide (0 ≤ zeae) = true := decide_eq_true c24
             clear c24
             by_cases c25 : zeae < (t392.length : Int)
             ·rw [if_pos c25] at H
              have c25b0 : decide (zeae < (t392.length : Int)) = true := decide_eq_true c25
              clear c25
              by_cases c26 : zeag.length < 8796093022208
              ·rw [if_pos c26] at H
               have LMc26 := zead c26
               clear c26
               obtain ⟨y401, hy401⟩ : ∃ y_ : List ByteArray, y_ = (zeag ++ [rdOf ByteArray.empty t392 zeae]) := ⟨_, rfl⟩
               replace H : (if zeah.length < 8796093022208 then (stowagetop_odd.l1 k3 l0 y401 (zeah ++ [t396]) zeai t392 (wrap64 (zeae + 1))) else (none)) = some r := by first | (rw [hy401]; with_reducible exact H) | (have H2_ := (Option.bind_some _ _).symm.trans H; rw [hy401]; with_reducible exact H2_) | (have H2_ := (Option.bind_some _ _).symm.trans H; with_reducible exact H2_) | with_reducible exact H | (rw [hy401]; exact H) | exact H
               have Ny401 := zead hy401
               clear hy401
               by_cases c27 : zeah.length < 8796093022208
               ·rw [if_pos c27] at H
                have LMc27 := zead c27
                clear c27
                obtain ⟨y404, hy404⟩ : ∃ y_ : List ByteArray, y_ = (zeah ++ [t396]) := ⟨_, rfl⟩
                replace H : (stowagetop_odd.l1 k3 l0 y401 y404 zeai t392 (wrap64 (zeae + 1))) = some r := by first | (rw [hy404]; with_reducible exact H) | (have H2_ := (Option.bind_some _ _).symm.trans H; rw [hy404]; with_reducible exact H2_) | (have H2_ := (Option.bind_some _ _).symm.trans H; with_reducible exact H2_) | with_reducible exact H | (rw [hy404]; exact H) | exact H
                have Ny404 := zead hy404
                clear hy404
                have H' := zead H
                clear H
                obtain ⟨Ao28, co28, eo28⟩ := Kd.R_slice HO_3.out
                subst eo28
                have p400 : 0 ≤ (zeae : Int) := of_decide_eq_true (by first | (with_reducible assumption) | assumption)
                have q400 : zeae < (t392.length : Int) := of_decide_eq_true (by first | (with_reducible assumption) | assumption)
                obtain ⟨ad400, e400, hx400_0⟩ := Kd.at_string (Kd.R_reads' HO_6.out).2.2 zeae p400 q400
                obtain rfl : ad395 = ad400 := (by injection e400)
                replace p400 := eq_true p400
                replace q400 := eq_true q400
                go_wp2_with (first | ((with_reducible refine gate_builtin (b := .append) (xs := #[.tmp 55, .tmp 60]) rfl ?_); at_builtin; refine Kd.R_append Kd.string (w0 := w) w.heap.size rfl (.tmp 55) (.tmp 60) 22 9 (.string ⟨#[]⟩) 16 rfl Tryz.underlying22 info9 rfl (by decide) (by omega) (.slice Ao28 zeag.length co28) zeag (rdOf ByteArray.empty t392 zeae) [.string (rdOf ByteArray.empty t392 zeae)] (fun k_ => some k_ ≠ (u4 : Value).ownBlock ∧ some k_ ≠ (.slice (some ad395) t392.length co9 : Value).ownBlock) (fun _ => False) rfl rfl ?aP (fun _ hk => hk.elim) ?aF ?aO ?aB ?aS ?aL ?_; (case aP => exact rfl); (case aB => exact (by repeat (first | (with_reducible first | exact HB.out | apply zeac | apply zeaa | apply zeab) | exact HB.out))); (case aF => exact (fun k_ hk => ⟨Kd.fresh' (Kd.R_lt (by (with_reducible repeat (first | apply Kd.R_alloc | apply Kd.R_drewN | apply Kd.R_drew)); exact HO_4.out)) k_ hk, Kd.fresh' (Kd.R_lt (by (with_reducible repeat (first | apply Kd.R_alloc | apply Kd.R_drewN | apply Kd.R_drew)); exact HO_6.out)) k_ hk⟩)); (case aO => exact (by (with_reducible repeat (first | apply Kd.R_alloc | apply Kd.R_drewN | apply Kd.R_drew)); exact HO_3.out)); (case aS => exact (below_size (by repeat (first | (with_reducible first | exact HB.out | apply zeac | apply zeaa | apply zeab) | exact HB.out)))); (case aL => have := LMc26.out; omega); intro v402 w29 ho hb hg hat; rw [← Ny401.out] at ho; have n0_ := zead (Kd.R_after (ok := (fun k_ => some k_ ≠ (.slice (some ad395) t392.length co9 : Value).ownBlock)) (by (with_reducible repeat (first | apply Kd.R_alloc | apply Kd.R_drewN | apply Kd.R_drew)); exact Kd.R_mono HO_4.out (fun _ hk => ⟨hk.2, hk.1⟩)) hg hat); have n1_ := zead (Kd.R_after (ok := (fun k_ => some k_ ≠ (u4 : Value).ownBlock)) (by (with_reducible repeat (first | apply Kd.R_alloc | apply Kd.R_drewN | apply Kd.R_drew)); exact Kd.R_mono HO_6.out (fun _ hk => ⟨hk.2, hk.1⟩)) hg hat); have n2_ := zead (hb); have n3_ := zead (ho); clear HO_4; clear HO_6; clear HB; clear HO_3; have HO_4 := n0_; have HO_6 := n1_; have HB := n2_; have HO403 := n3_; clear n0_ n1_ n2_ n3_; clear ho hb hg hat) | ((with_reducible refine gate_builtin (b := .append) (xs := #[.tmp 62, .tmp 64]) rfl ?_); at_builtin; refine Kd.R_append Kd.string (w0 := w) w.heap.size rfl (.tmp 62) (.tmp 64) 22 9 (.string ⟨#[]⟩) 16 rfl Tryz.underlying22 info9 rfl (by decide) (by omega) u4 zeah t396 [.string t396] (fun k_ => some k_ ≠ (.slice (some ad395) t392.length co9 : Value).ownBlock ∧ some k_ ≠ (v402 : Value).ownBlock) (fun _ => False) rfl rfl ?aP (fun _ hk => hk.elim) ?aF ?aO ?aB ?aS ?aL ?_; (case aP => exact rfl); (case aB => exact (by repeat (first | (with_reducible first | exact HB.out | apply zeac | apply zeaa | apply zeab) | exact HB.out))); (case aF => exact (fun k_ hk => ⟨Kd.fresh' (Kd.R_lt (by (with_reducible repeat (first | apply Kd.R_alloc | apply Kd.R_drewN | apply Kd.R_drew)); exact HO_6.out)) k_ hk, Kd.fresh' (Kd.R_lt (by (with_reducible repeat (first | apply Kd.R_alloc | apply Kd.R_drewN | apply Kd.R_drew)); exact HO403.out)) k_ hk⟩)); (case aO => exact (by (with_reducible repeat (first | apply Kd.R_alloc | apply Kd.R_drewN | apply Kd.R_drew)); exact HO_4.out)); (case aS => exact (below_size (by repeat (first | (with_reducible first | exact HB.out | apply zeac | apply zeaa | apply zeab) | exact HB.out)))); (case aL => have := LMc27.out; omega); intro v405 w30 ho hb hg hat; rw [← Ny404.out] at ho; have n0_ := zead (Kd.R_after (ok := (fun k_ => some k_ ≠ (v402 : Value).ownBlock)) (by (with_reducible repeat (first | apply Kd.R_alloc | apply Kd.R_drewN | apply Kd.R_drew)); exact Kd.R_mono HO_6.out (fun _ hk => ⟨hk.2, hk.1⟩)) hg hat); have n1_ := zead (Kd.R_after (ok := (fun k_ => some k_ ≠ (.slice (some ad395) t392.length co9 : Value).ownBlock)) (by (with_reducible repeat (first | apply Kd.R_alloc | apply Kd.R_drewN | apply Kd.R_drew)); exact Kd.R_mono HO403.out (fun _ hk => ⟨hk.2, hk.1⟩)) hg hat); have n2_ := zead (hb); have n3_ := zead (ho); clear HO_6; clear HO403; clear HB; clear HO_4; have HO_6 := n0_; have HO403 := n1_; have HB := n2_; have HO406 := n3_; clear n0_ n1_ n2_ n3_; clear ho hb hg hat))
                repeat (go_quiet (first | ((with_reducible refine gate_builtin (b := .append) (xs := #[.tmp 55, .tmp 60]) rfl ?_); at_builtin; refine Kd.R_append Kd.string (w0 := w) w.heap.size rfl (.tmp 55) (.tmp 60) 22 9 (.string ⟨#[]⟩) 16 rfl Tryz.underlying22 info9 rfl (by decide) (by omega) (.slice Ao28 zeag.length co28) zeag (rdOf ByteArray.empty t392 zeae) [.string (rdOf ByteArray.empty t392 zeae)] (fun k_ => some k_ ≠ (u4 : Value).ownBlock ∧ some k_ ≠ (.slice (some ad395) t392.length co9 : Value).ownBlock) (fun _ => False) rfl rfl ?aP (fun _ hk => hk.elim) ?aF ?aO ?aB ?aS ?aL ?_; (case aP => exact rfl); (case aB => exact (by repeat (first | (with_reducible first | exact HB.out | apply zeac | apply zeaa | apply zeab) | exact HB.out))); (case aF => exact (fun k_ hk => ⟨Kd.fresh' (Kd.R_lt (by (with_reducible repeat (first | apply Kd.R_alloc | apply Kd.R_drewN | apply Kd.R_drew)); exact HO_4.out)) k_ hk, Kd.fresh' (Kd.R_lt (by (with_reducible repeat (first | apply Kd.R_alloc | apply Kd.R_drewN | apply Kd.R_drew)); exact HO_6.out)) k_ hk⟩)); (case aO => exact (by (with_reducible repeat (first | apply Kd.R_alloc | apply Kd.R_drewN | apply Kd.R_drew)); exact HO_3.out)); (case aS => exact (below_size (by repeat (first | (with_reducible first | exact HB.out | apply zeac | apply zeaa | apply zeab) | exact HB.out)))); (case aL => have := LMc26.out; omega); intro v402 w29 ho hb hg hat; rw [← Ny401.out] at ho; have n0_ := zead (Kd.R_after (ok := (fun k_ => some k_ ≠ (.slice (some ad395) t392.length co9 : Value).ownBlock)) (by (with_reducible repeat (first | apply Kd.R_alloc | apply Kd.R_drewN | apply Kd.R_drew)); exact Kd.R_mono HO_4.out (fun _ hk => ⟨hk.2, hk.1⟩)) hg hat); have n1_ := zead (Kd.R_after (ok := (fun k_ => some k_ ≠ (u4 : Value).ownBlock)) (by (with_reducible repeat (first | apply Kd.R_alloc | apply Kd.R_drewN | apply Kd.R_drew)); exact Kd.R_mono HO_6.out (fun _ hk => ⟨hk.2, hk.1⟩)) hg hat); have n2_ := zead (hb); have n3_ := zead (ho); clear HO_4; clear HO_6; clear HB; clear HO_3; have HO_4 := n0_; have HO_6 := n1_; have HB := n2_; have HO403 := n3_; clear n0_ n1_ n2_ n3_; clear ho hb hg hat) | ((with_reducible refine gate_builtin (b := .append) (xs := #[.tmp 62, .tmp 64]) rfl ?_); at_builtin; refine Kd.R_append Kd.string (w0 := w) w.heap.size rfl (.tmp 62) (.tmp 64) 22 9 (.string ⟨#[]⟩) 16 rfl Tryz.underlying22 info9 rfl (by decide) (by omega) u4 zeah t396 [.string t396] (fun k_ => some k_ ≠ (.slice (some ad395) t392.length co9 : Value).ownBlock ∧ some k_ ≠ (v402 : Value).ownBlock) (fun _ => False) rfl rfl ?aP (fun _ hk => hk.elim) ?aF ?aO ?aB ?aS ?aL ?_; (case aP => exact rfl); (case aB => exact (by repeat (first | (with_reducible first | exact HB.out | apply zeac | apply zeaa | apply zeab) | exact HB.out))); (case aF => exact (fun k_ hk => ⟨Kd.fresh' (Kd.R_lt (by (with_reducible repeat (first | apply Kd.R_alloc | apply Kd.R_drewN | apply Kd.R_drew)); exact HO_6.out)) k_ hk, Kd.fresh' (Kd.R_lt (by (with_reducible repeat (first | apply Kd.R_alloc | apply Kd.R_drewN | apply Kd.R_drew)); exact HO403.out)) k_ hk⟩)); (case aO => exact (by (with_reducible repeat (first | apply Kd.R_alloc | apply Kd.R_drewN | apply Kd.R_drew)); exact HO_4.out)); (case aS => exact (below_size (by repeat (first | (with_reducible first | exact HB.out | apply zeac | apply zeaa | apply zeab) | exact HB.out)))); (case aL => have := LMc27.out; omega); intro v405 w30 ho hb hg hat; rw [← Ny404.out] at ho; have n0_ := zead (Kd.R_after (ok := (fun k_ => some k_ ≠ (v402 : Value).ownBlock)) (by (with_reducible repeat (first | apply Kd.R_alloc | apply Kd.R_drewN | apply Kd.R_drew)); exact Kd.R_mono HO_6.out (fun _ hk => ⟨hk.2, hk.1⟩)) hg hat); have n1_ := zead (Kd.R_after (ok := (fun k_ => some k_ ≠ (.slice (some ad395) t392.length co9 : Value).ownBlock)) (by (with_reducible repeat (first | apply Kd.R_alloc | apply Kd.R_drewN | apply Kd.R_drew)); exact Kd.R_mono HO403.out (fun _ hk => ⟨hk.2, hk.1⟩)) hg hat); have n2_ := zead (hb); have n3_ := zead (ho); clear HO_6; clear HO403; clear HB; clear HO_4; have HO_6 := n0_; have HO403 := n1_; have HB := n2_; have HO406 := n3_; clear n0_ n1_ n2_ n3_; clear ho hb hg hat)); try go_wp2_with (first | ((with_reducible refine gate_builtin (b := .append) (xs := #[.tmp 55, .tmp 60]) rfl ?_); at_builtin; refine Kd.R_append Kd.string (w0 := w) w.heap.size rfl (.tmp 55) (.tmp 60) 22 9 (.string ⟨#[]⟩) 16 rfl Tryz.underlying22 info9 rfl (by decide) (by omega) (.slice Ao28 zeag.length co28) zeag (rdOf ByteArray.empty t392 zeae) [.string (rdOf ByteArray.empty t392 zeae)] (fun k_ => some k_ ≠ (u4 : Value).ownBlock ∧ some k_ ≠ (.slice (some ad395) t392.length co9 : Value).ownBlock) (fun _ => False) rfl rfl ?aP (fun _ hk => hk.elim) ?aF ?aO ?aB ?aS ?aL ?_; (case aP => exact rfl); (case aB => exact (by repeat (first | (with_reducible first | exact HB.out | apply zeac | apply zeaa | apply zeab) | exact HB.out))); (case aF => exact (fun k_ hk => ⟨Kd.fresh' (Kd.R_lt (by (with_reducible repeat (first | apply Kd.R_alloc | apply Kd.R_drewN | apply Kd.R_drew)); exact HO_4.out)) k_ hk, Kd.fresh' (Kd.R_lt (by (with_reducible repeat (first | apply Kd.R_alloc | apply Kd.R_drewN | apply Kd.R_drew)); exact HO_6.out)) k_ hk⟩)); (case aO => exact (by (with_reducible repeat (first | apply Kd.R_alloc | apply Kd.R_drewN | apply Kd.R_drew)); exact HO_3.out)); (case aS => exact (below_size (by repeat (first | (with_reducible first | exact HB.out | apply zeac | apply zeaa | apply zeab) | exact HB.out)))); (case aL => have := LMc26.out; omega); intro v402 w29 ho hb hg hat; rw [← Ny401.out] at ho; have n0_ := zead (Kd.R_after (ok := (fun k_ => some k_ ≠ (.slice (some ad395) t392.length co9 : Value).ownBlock)) (by (with_reducible repeat (first | apply Kd.R_alloc | apply Kd.R_drewN | apply Kd.R_drew)); exact Kd.R_mono HO_4.out (fun _ hk => ⟨hk.2, hk.1⟩)) hg hat); have n1_ := zead (Kd.R_after (ok := (fun k_ => some k_ ≠ (u4 : Value).ownBlock)) (by (with_reducible repeat (first | apply Kd.R_alloc | apply Kd.R_drewN | apply Kd.R_drew)); exact Kd.R_mono HO_6.out (fun _ hk => ⟨hk.2, hk.1⟩)) hg hat); have n2_ := zead (hb); have n3_ := zead (ho); clear HO_4; clear HO_6; clear HB; clear HO_3; have HO_4 := n0_; have HO_6 := n1_; have HB := n2_; have HO403 := n3_; clear n0_ n1_ n2_ n3_; clear ho hb hg hat) | ((with_reducible refine gate_builtin (b := .append) (xs := #[.tmp 62, .tmp 64]) rfl ?_); at_builtin; refine Kd.R_append Kd.string (w0 := w) w.heap.size rfl (.tmp 62) (.tmp 64) 22 9 (.string ⟨#[]⟩) 16 rfl Tryz.underlying22 info9 rfl (by decide) (by omega) u4 zeah t396 [.string t396] (fun k_ => some k_ ≠ (.slice (some ad395) t392.length co9 : Value).ownBlock ∧ some k_ ≠ (v402 : Value).ownBlock) (fun _ => False) rfl rfl ?aP (fun _ hk => hk.elim) ?aF ?aO ?aB ?aS ?aL ?_; (case aP => exact rfl); (case aB => exact (by repeat (first | (with_reducible first | exact HB.out | apply zeac | apply zeaa | apply zeab) | exact HB.out))); (case aF => exact (fun k_ hk => ⟨Kd.fresh' (Kd.R_lt (by (with_reducible repeat (first | apply Kd.R_alloc | apply Kd.R_drewN | apply Kd.R_drew)); exact HO_6.out)) k_ hk, Kd.fresh' (Kd.R_lt (by (with_reducible repeat (first | apply Kd.R_alloc | apply Kd.R_drewN | apply Kd.R_drew)); exact HO403.out)) k_ hk⟩)); (case aO => exact (by (with_reducible repeat (first | apply Kd.R_alloc | apply Kd.R_drewN | apply Kd.R_drew)); exact HO_4.out)); (case aS => exact (below_size (by repeat (first | (with_reducible first | exact HB.out | apply zeac | apply zeaa | apply zeab) | exact HB.out)))); (case aL => have := LMc27.out; omega); intro v405 w30 ho hb hg hat; rw [← Ny404.out] at ho; have n0_ := zead (Kd.R_after (ok := (fun k_ => some k_ ≠ (v402 : Value).ownBlock)) (by (with_reducible repeat (first | apply Kd.R_alloc | apply Kd.R_drewN | apply Kd.R_drew)); exact Kd.R_mono HO_6.out (fun _ hk => ⟨hk.2, hk.1⟩)) hg hat); have n1_ := zead (Kd.R_after (ok := (fun k_ => some k_ ≠ (.slice (some ad395) t392.length co9 : Value).ownBlock)) (by (with_reducible repeat (first | apply Kd.R_alloc | apply Kd.R_drewN | apply Kd.R_drew)); exact Kd.R_mono HO403.out (fun _ hk => ⟨hk.2, hk.1⟩)) hg hat); have n2_ := zead (hb); have n3_ := zead (ho); clear HO_6; clear HO403; clear HB; clear HO_4; have HO_6 := n0_; have HO403 := n1_; have HB := n2_; have HO406 := n3_; clear n0_ n1_ n2_ n3_; clear ho hb hg hat)))
                go_roundg k3
                case measure => have := HK1.out; have := HK2.out; have := HK3.out; omega
                case rel => exact ⟨(y401), (y404), (wrap64 (zeae + 1)), (by first | rfl | (simp; done) | (simp [*]; done)), H', ⟨by have := HK1.out; have := HK2.out; have := HK3.out; omega⟩, ⟨by (with_reducible repeat (first | apply Kd.R_alloc | apply Kd.R_drewN | apply Kd.R_drew)); exact Kd.R_mono HO403.out (fun _ hk => ⟨hk.2, hk.1⟩)⟩, ⟨by (with_reducible repeat (first | apply Kd.R_alloc | apply Kd.R_drewN | apply Kd.R_drew)); exact Kd.R_mono HO406.out (fun _ hk => ⟨hk.2, hk.1⟩)⟩, ⟨by (with_reducible repeat (first | apply Kd.R_alloc | apply Kd.R_drewN | apply Kd.R_drew)); exact HO_6.out⟩, ⟨by repeat (first | (with_reducible first | exact HB.out | apply zeac | apply zeaa | apply zeab) | exact HB.out)⟩⟩
               ·rw [if_neg c27] at H
                exact absurd H (by simp)
              ·rw [if_neg c26] at H
               exact absurd H (by simp)
             ·rw [if_neg c25] at H
              exact absurd H (by simp)
            ·rw [if_neg c24] at H
             exact absurd H (by simp)
        ·rw [if_neg c7] at H
         exact absurd H (by simp)
       ·rw [if_neg c6] at H
        have c6b0 : decide (zeae < (t392.length : Int)) = false := decide_eq_false c6
        clear c6
        have H' := zead H
        clear H
        obtain ⟨Ao31, co31, eo31⟩ := Kd.R_slice HO_6.out
        subst eo31
        go_wp2
        repeat (go_quiet (fail); try go_wp2)
        go_roundg k2
        case measure => have := HK1.out; have := HK2.out; omega
        case rel => exact ⟨(zeag), (zeah), (wrap64 (zeai + 1)), (by first | rfl | (simp; done) | (simp [*]; done)), H', ⟨by have := HK1.out; have := HK2.out; omega⟩, ⟨by (with_reducible repeat (first | apply Kd.R_alloc | apply Kd.R_drewN | apply Kd.R_drew)); exact Kd.R_mono HO_3.out (fun _ hk => hk.1)⟩, ⟨by (with_reducible repeat (first | apply Kd.R_alloc | apply Kd.R_drewN | apply Kd.R_drew)); exact Kd.R_mono HO_4.out (fun _ hk => hk.1)⟩, ⟨by repeat (first | (with_reducible first | exact HB.out | apply zeac | apply zeaa | apply zeab) | exact HB.out)⟩⟩
    ·rw [if_neg c3] at H
     exact absurd H (by simp)
   ·rw [if_neg c2] at H
    have c2b0 : decide (zeai < (l0.length : Int)) = false := decide_eq_false c2
    clear c2
    obtain rfl := Option.some.inj H
    go_wp2
    repeat (go_quiet (fail); try go_wp2)
    go_ret
    exact ⟨by first | rfl | (simp [errW_none, errW_some] <;> rfl) | (simp [*, errW_none, errW_some] <;> rfl), by repeat (first | (with_reducible first | exact HB.out | apply zeac | apply zeaa | apply zeab) | exact HB.out)⟩

-- NOT PRINTED: function 3 (stowagetop_TopParts)
end Go.Proofs.YtpgbkeaaklglkaaGreatDoor.Q