

/- A function of the document's answer, printed: digits. -/
import Derived.Test.YtpgbkeaaklglkaaGreatDoorQx0
namespace Go.Proofs.YtpgbkeaaklglkaaGreatDoor.Q
open Go.RowKit Go.Proofs.YtpgbkeaaklglkaaGreatDoorW.PrintWords Go.Proofs.YtpgbkeaaklglkaaGreatDoorW.PrintLast Go.Proofs.YtpgbkeaaklglkaaGreatDoorW.PrintMore
attribute [local go_sem] max2_int min2_int max_two min_two max_three min_three max_four min_four   -- for this text's walks alone
set_option linter.unusedVariables false
set_option linter.unusedSimpArgs false
attribute [local go_sem] xor_ones_u8 xor_ones_u16 xor_ones_u32 xor_ones_u64 cell_twice frozen_twice
abbrev zfaa := @List.setIfInBounds_toArray
abbrev zfab := @List.set_cons_zero
abbrev zfac := @List.set_cons_succ
abbrev zfad := @pw_below_drewN
abbrev zfae := @below_drew1
abbrev zfaf := @below_alloc
abbrev zfag := @Aside0.mk
abbrev zfsq0 : Array Bool := #[false, false, false, false, false, false, false, false, false, false, false]
abbrev zfsq1 : Array Bool := #[true, false, false, false, false, false, false, false, false, false, false]
abbrev zfsq2 : Array Bool := #[true, true, false, false, false, false, false, false, false, false, false]
abbrev zfsq3 : Array Bool := #[true, true, false, false, true, false, false, false, false, false, false]
abbrev zfsq4 : Array Bool := #[true, true, false, false, true, true, false, false, false, false, false]
abbrev zfsq5 : Array Bool := #[true, true, false, false, true, true, false, false, false, false, true]
abbrev zfsq6 : Array Bool := #[true, true, true, false, true, true, false, false, false, false, true]
abbrev zfsq7 : Array Bool := #[true, true, true, true, true, true, false, false, false, false, true]
abbrev zfsq8 : Array Bool := #[true, true, true, true, true, true, true, false, false, false, true]
abbrev zfsq9 : Array Bool := #[true, true, true, true, true, true, true, true, false, false, true]
abbrev zfsq10 : Array Bool := #[true, true, true, true, true, true, true, true, true, false, true]
abbrev zfsq11 : Array Bool := #[true, true, true, true, true, true, true, true, true, true, true]
/-! ### stowageref03_Hex: function 56 -/
mutual
def stowageref03_Hex.l0 : Nat → ByteArray → List Int → Int → Option (ByteArray)
 | 0, _, _, _ => none
 | k + 1, x0, x3, x4 => if x4 < (x0.size : Int) then (if 0 ≤ x4 then ((some (([(Int.tdiv (bt x0 x4) 16) % 256, Int.tmod (bt x0 x4) 16] : List Int) : List Int)).bind fun y321 => (stowageref03_Hex.l1 k x0 x3 x4 y321 (y321.length : Int) 0)) else (none)) else (some (strOfNums x3))
def stowageref03_Hex.l1 : Nat → ByteArray → List Int → Int → List Int → Int → Int → Option (ByteArray)
 | 0, _, _, _, _, _, _ => none
 | k + 1, x0, x3, x4, x21, x22, x23 => if x23 < x22 then (if 0 ≤ x23 then (if x23 < (x21.length : Int) then (if (rd x21 x23) < 10 then (if x3.length < 140737488355328 then (stowageref03_Hex.l1 k x0 (x3 ++ [(48 + (rd x21 x23)) % 256]) x4 x21 x22 (wrap64 (x23 + 1))) else (none)) else (if x3.length < 140737488355328 then (stowageref03_Hex.l1 k x0 (x3 ++ [(87 + (rd x21 x23)) % 256]) x4 x21 x22 (wrap64 (x23 + 1))) else (none))) else (none)) else (none)) else (stowageref03_Hex.l0 k x0 x3 (wrap64 (x4 + 1)))
end
def stowageref03_Hex.f (k : Nat) (a0 : ByteArray) : Option (ByteArray) := stowageref03_Hex.l0 k a0 ([] : List Int) 0
theorem stowageref03_Hex.mono_l : ∀ k, (∀ y0 y1 y2, LeO (stowageref03_Hex.l0 k y0 y1 y2) (stowageref03_Hex.l0 (k + 1) y0 y1 y2)) ∧ (∀ y0 y1 y2 y3 y4 y5, LeO (stowageref03_Hex.l1 k y0 y1 y2 y3 y4 y5) (stowageref03_Hex.l1 (k + 1) y0 y1 y2 y3 y4 y5))
 | 0 => ⟨fun _ _ _ r h => by simp [stowageref03_Hex.l0] at h, fun _ _ _ _ _ _ r h => by simp [stowageref03_Hex.l1] at h⟩
 | k + 1 => by
  obtain ⟨ih0, ih1⟩ := stowageref03_Hex.mono_l k
  refine ⟨?_, ?_⟩
  ·intro y0 y1 y2
   unfold stowageref03_Hex.l0
   repeat' first
   | (with_reducible exact ih0 _ _ _)
   | (with_reducible exact ih1 _ _ _ _ _ _)
   | (with_reducible exact LeO.refl _)
   | (with_reducible exact LeO.none _)
   | (with_reducible refine LeO.ite ?_ ?_)
   | (with_reducible refine LeO.bind ?_ (fun _ => ?_))
   | exact ih0 _ _ _
   | exact ih1 _ _ _ _ _ _
   | exact LeO.none _
   | refine LeO.ite ?_ ?_
   | refine LeO.bind ?_ (fun _ => ?_)
  ·intro y0 y1 y2 y3 y4 y5
   unfold stowageref03_Hex.l1
   repeat' first
   | (with_reducible exact ih0 _ _ _)
   | (with_reducible exact ih1 _ _ _ _ _ _)
   | (with_reducible exact LeO.refl _)
   | (with_reducible exact LeO.none _)
   | (with_reducible refine LeO.ite ?_ ?_)
   | (with_reducible refine LeO.bind ?_ (fun _ => ?_))
   | exact ih0 _ _ _
   | exact ih1 _ _ _ _ _ _
   | exact LeO.none _
   | refine LeO.ite ?_ ?_
   | refine LeO.bind ?_ (fun _ => ?_)
theorem stowageref03_Hex.mono : ∀ a0 k, LeO (stowageref03_Hex.f k a0) (stowageref03_Hex.f (k + 1) a0) := by
 intro a0 k
 obtain ⟨ih0, ih1⟩ := stowageref03_Hex.mono_l k
 unfold stowageref03_Hex.f
 repeat' first
   | (with_reducible exact ih0 _ _ _)
   | (with_reducible exact ih1 _ _ _ _ _ _)
   | (with_reducible exact LeO.refl _)
   | (with_reducible exact LeO.none _)
   | (with_reducible refine LeO.ite ?_ ?_)
   | (with_reducible refine LeO.bind ?_ (fun _ => ?_))
   | exact ih0 _ _ _
   | exact ih1 _ _ _ _ _ _
   | exact LeO.none _
   | refine LeO.ite ?_ ?_
   | refine LeO.bind ?_ (fun _ => ?_)
def stowageref03_Hex.T5 : Bool × List (List Nat × List Nat) := (true, [([], []), ([], []), ([0, 1], [0, 1]), ([2], [2]), ([], []), ([], []), ([4, 5], [4, 5]), ([6], [6]), ([3, 7], [3, 7]), ([8], [8]), ([], [])])
def stowageref03_Hex.B5 : List Nat := [0, 0, 3, 7, 0, 0, 48, 112, 255, 511, 0]
theorem stowageref03_Hex.tab5 : rtab .any (opsOf Tryz.f56 5) = stowageref03_Hex.T5 := by kernel_rfl
theorem stowageref03_Hex.bits5 : waitsOk stowageref03_Hex.T5.2 stowageref03_Hex.B5 = true := by kernel_rfl
set_option maxHeartbeats 8000000 in
set_option maxRecDepth 100000 in
theorem stowageref03_Hex.calls (k : Nat) (a0 : ByteArray) (r : ByteArray) (w : World) (h : stowageref03_Hex.f k a0 = some r) :
  Calls Tryz.prog 56 #[.string a0] w fun e w' => e = .returned (.string r) ∧ Below w.heap.size w w' := by
 have HB := zfag (Below.refl w.heap.size w)
 have H : (stowageref03_Hex.l0 k a0 ([] : List Int) 0) = some r := h
 clear h
 have H' := zfag H
 clear H
 go_enter Tryz.func56, Tryz.ntmps56
 go_wp2
 go_loopg [3, 4] k (fun kq v3 v4 w' => ∃ (zfak : List Int) (zfai : Int), v4 = .int .i64 zfai ∧ Aside0 (stowageref03_Hex.l0 kq a0 zfak zfai = some r) ∧ Aside0 (kq ≤ k) ∧ Aside0 (Kd.R (Kd.int .u8) 5 w' w.heap.size (fun _ => True) v3 zfak) ∧ Aside0 (Below w.heap.size w w'))
 case atStart => exact ⟨(([] : List Int)), (0), (by first | rfl | (simp; done) | (simp [*]; done)), H', ⟨Nat.le_refl _⟩, ⟨by first | exact Kd.R_nil _ _ _ _ _ | exact Kd.N_nil _ _ _ _ _ | exact Kd.V_nil _ _ _ _ _ | exact Kd.Q_nil _ _ _ _ _ | exact Kd.S_nil _ _ _ _ _⟩, ⟨by repeat (first | (with_reducible first | exact HB.out | apply zfaf | apply zfad | apply zfae) | exact HB.out)⟩⟩
 case round =>
  clear H'
  obtain ⟨zfak, zfai, rfl, HA, HK1, HO_3, HB⟩ := hrel
  cases gk with
  | zero => exact absurd HA.out (by simp [stowageref03_Hex.l0])
  | succ k1 =>
   have H := HA.out
   clear HA
   simp only [stowageref03_Hex.l0] at H
   by_cases c2 : zfai < (a0.size : Int)
   ·rw [if_pos c2] at H
    have c2b0 : decide (zfai < (a0.size : Int)) = true := decide_eq_true c2
    clear c2
    by_cases c3 : 0 ≤ zfai
    ·rw [if_pos c3] at H
     have c3b0 : decide (0 ≤ zfai) = true := decide_eq_true c3
     clear c3
     obtain ⟨y321, hy321⟩ : ∃ y_ : List Int, y_ = (([(Int.tdiv (bt a0 zfai) 16) % 256, Int.tmod (bt a0 zfai) 16] : List Int)) := ⟨_, rfl⟩
     replace H : (stowageref03_Hex.l1 k1 a0 zfak zfai y321 (y321.length : Int) 0) = some r := by first | (rw [hy321]; with_reducible exact H) | (have H2_ := (Option.bind_some _ _).symm.trans H; rw [hy321]; with_reducible exact H2_) | (have H2_ := (Option.bind_some _ _).symm.trans H; with_reducible exact H2_) | with_reducible exact H | (rw [hy321]; exact H) | exact H
     have Ny321 := zfag hy321
     clear hy321
     have H' := zfag H
     clear H
     try go_wp2
     have n0_ := zfag (Kd.R_drew HO_3.out)
     have n1_ := zfag (zfae HB.out)
     clear HO_3
     clear HB
     have HO_3 := n0_
     have HB := n1_
     clear n0_ n1_
     have p4 : 0 ≤ (zfai : Int) := of_decide_eq_true (by first | (with_reducible assumption) | assumption)
     have q4 : zfai < (a0.size : Int) := of_decide_eq_true (by first | (with_reducible assumption) | assumption)
     have hx4 := bt_at a0 zfai
     replace p4 := eq_true p4
     replace q4 := eq_true q4
     have p5 : 0 ≤ (zfai : Int) := of_decide_eq_true (by first | (with_reducible assumption) | assumption)
     have q5 : zfai < (a0.size : Int) := of_decide_eq_true (by first | (with_reducible assumption) | assumption)
     have hx5 := bt_at a0 zfai
     replace p5 := eq_true p5
     replace q5 := eq_true q5
     refine start_ (n := 11) (S := fun w' => True) (ds := []) zfsq0 (by kernel_rfl) rfl rfl trivial (fun hHeld => ?_); refine with_tabW stowageref03_Hex.tab5 stowageref03_Hex.bits5 (fun HT_ HW_ => ?_)
     generalize wr.drew = w6 at HO_3 HB hHeld ⊢
     refine pt 0 13 HT_ ?_
     refine pt 1 14 HT_ ?_
     refine pt 4 17 HT_ ?_
     refine pt 5 18 HT_ ?_
     refine pt 10 23 HT_ ?_
     refine tt 2 15 HT_ HW_ ?_
     refine pt 3 16 HT_ ?_
     refine tt 6 19 HT_ HW_ ?_
     refine pt 7 20 HT_ ?_
     refine one_ (i := 8) (N := some 21) zfsq10 rfl rfl (one_of HT_.out (by kernel_rfl)) (by decide) (fun K hK => ?_)
     refine Kd.R_lit_step (Kd.int .u8) _ 5 ?hg (N := 21) ?hd (xs := ([(Int.tdiv (bt a0 zfai) 16) % 256, Int.tmod (bt a0 zfai) 16] : List Int)) (inner := [.int .u8 ((Int.tdiv (bt a0 zfai) 16) % 256), .int .u8 (Int.tmod (bt a0 zfai) 16)]) (ok := fun _ => True) (okp := fun _ => True) ?hr ?hp (fun _ hk => hk) trivial (Below.refl _ _) (Nat.le_refl _) (by simp) ?_; (case hd => rfl); (case hg => rfl); (case hr => first | (go_simp; done) | (go_simp; rfl)); (case hp => exact (Reps.one (show Kd.M (Kd.int .u8) _ _ _ ((Int.tdiv (bt a0 zfai) 16) % 256) [.int .u8 ((Int.tdiv (bt a0 zfai) 16) % 256)] from rfl) (Reps.one (show Kd.M (Kd.int .u8) _ _ _ (Int.tmod (bt a0 zfai) 16) [.int .u8 (Int.tmod (bt a0 zfai) 16)] from rfl) (Reps.none _ _))))
     intro v322 w7 ho8 hb hg_ hnew_
     clear hg_ hnew_
     (first | rw [← Ny321.out] at ho8 | (simp only [Int.reduceToNat] at ho8; rw [← Ny321.out] at ho8))
     have n0_ := zfag (Kd.R_elder' (by (with_reducible repeat (first | apply Kd.R_alloc | apply Kd.R_drewN | apply Kd.R_drew)); exact HO_3.out) (Kd.R_base ho8) hb)
     have n1_ := zfag (Kd.R_lower (Kd.R_new' ho8 (Kd.R_lt (by (with_reducible repeat (first | apply Kd.R_alloc | apply Kd.R_drewN | apply Kd.R_drew)); exact HO_3.out))) (below_size (by repeat (first | (with_reducible first | exact HB.out | apply zfaf | apply zfad | apply zfae) | exact HB.out))))
     have n2_ := zfag (below_step (by repeat (first | (with_reducible first | exact HB.out | apply zfaf | apply zfad | apply zfae) | exact HB.out)) hb)
     clear HO_3
     clear HB
     have HO_3 := n0_
     have HO323 := n1_
     have HB := n2_
     clear n0_ n1_ n2_
     clear hb ho8
     obtain ⟨Ao9, co9, eo9⟩ := Kd.R_slice HO323.out
     (first | subst eo9 | (injection eo9 with f1_ f2_ f3_; have f4_ := f1_.symm; have f5_ := f3_.symm; clear f1_ f2_ f3_; subst f4_; subst f5_))
     refine hK.out _ _ trivial (fun hHeld => ?_)
     clear hK K
     refine nt 21 ?_
     refine pt 9 22 HT_ ?_
     refine done_ (done_of HT_.out (by kernel_rfl)) ?_
     try go_wp2
     go_loopg [3, 23] k1 (fun kq v3 v23 w' => ∃ (zfaj : List Int) (zfah : Int), v23 = .int .i64 zfah ∧ Aside0 (stowageref03_Hex.l1 kq a0 zfaj zfai y321 (y321.length : Int) zfah = some r) ∧ Aside0 (kq ≤ k1) ∧ Aside0 (Kd.R (Kd.int .u8) 5 w' w.heap.size (fun k_ => some k_ ≠ ((.slice Ao9 y321.length co9) : Value).ownBlock) v3 zfaj) ∧ Aside0 (Kd.R (Kd.int .u8) 5 w' w.heap.size (fun k_ => some k_ ≠ (v3 : Value).ownBlock) (.slice Ao9 y321.length co9) y321) ∧ Aside0 (Below w.heap.size w w'))
     case atStart => exact ⟨(zfak), (0), (by first | rfl | (simp; done) | (simp [*]; done)), H', ⟨Nat.le_refl _⟩, ⟨by (with_reducible repeat (first | apply Kd.R_alloc | apply Kd.R_drewN | apply Kd.R_drew)); exact Kd.R_mono HO_3.out (fun _ hk => hk.2)⟩, ⟨by (with_reducible repeat (first | apply Kd.R_alloc | apply Kd.R_drewN | apply Kd.R_drew)); exact Kd.R_mono HO323.out (fun _ hk => hk.2)⟩, ⟨by repeat (first | (with_reducible first | exact HB.out | apply zfaf | apply zfad | apply zfae) | exact HB.out)⟩⟩
     case round =>
      clear H'
      try clear c2
      try clear c2b0
      try clear p2
      try clear c3
      try clear c3b0
      try clear p4
      try clear q4
      try clear hx4
      try clear c5
      try clear p5
      try clear q5
      try clear hx5
      try clear p4
      try clear p5
      try clear q4
      try clear q5
      obtain ⟨zfaj, zfah, rfl, HA, HK2, HO_3, HO_21, HB⟩ := hrel
      cases gk with
      | zero => exact absurd HA.out (by simp [stowageref03_Hex.l1])
      | succ k2 =>
       have H := HA.out
       clear HA
       simp only [stowageref03_Hex.l1] at H
       by_cases c10 : zfah < (y321.length : Int)
       ·rw [if_pos c10] at H
        have c10b0 : decide (zfah < (y321.length : Int)) = true := decide_eq_true c10
        clear c10
        by_cases c11 : 0 ≤ zfah
        ·rw [if_pos c11] at H
         have c11b0 : decide (0 ≤ zfah) = true := decide_eq_true c11
         clear c11
         by_cases c12 : zfah < (y321.length : Int)
         ·rw [if_pos c12] at H
          have c12b0 : decide (zfah < (y321.length : Int)) = true := decide_eq_true c12
          clear c12
          by_cases c13 : (rd y321 zfah) < 10
          ·rw [if_pos c13] at H
           have c13b0 : decide ((rd y321 zfah) < 10) = true := decide_eq_true c13
           clear c13
           by_cases c14 : zfaj.length < 140737488355328
           ·rw [if_pos c14] at H
            have LMc14 := zfag c14
            clear c14
            obtain ⟨y325, hy325⟩ : ∃ y_ : List Int, y_ = (zfaj ++ [(48 + (rd y321 zfah)) % 256]) := ⟨_, rfl⟩
            replace H : (stowageref03_Hex.l1 k2 a0 y325 zfai y321 (y321.length : Int) (wrap64 (zfah + 1))) = some r := by first | (rw [hy325]; with_reducible exact H) | (have H2_ := (Option.bind_some _ _).symm.trans H; rw [hy325]; with_reducible exact H2_) | (have H2_ := (Option.bind_some _ _).symm.trans H; with_reducible exact H2_) | with_reducible exact H | (rw [hy325]; exact H) | exact H
            have Ny325 := zfag hy325
            clear hy325
            have H' := zfag H
            clear H
            have p324 : 0 ≤ (zfah : Int) := of_decide_eq_true (by first | (with_reducible assumption) | assumption)
            have q324 : zfah < (y321.length : Int) := of_decide_eq_true (by first | (with_reducible assumption) | assumption)
            obtain ⟨ad324, e324, hx324_0⟩ := Kd.at_int (Kd.R_reads' HO_21.out).2.2 zfah p324 q324
            cases e324
            replace p324 := eq_true p324
            replace q324 := eq_true q324
            go_wp2_with (first | ((with_reducible refine gate_builtin (b := .append) (xs := #[.tmp 29, .tmp 32]) rfl ?_); at_builtin; refine Kd.R_append (Kd.int .u8) (w0 := w) w.heap.size rfl (.tmp 29) (.tmp 32) 72 5 (.int .u8 0) 1 rfl Tryz.underlying72 info5 rfl (by decide) (by omega) u3 zfaj ((48 + (rd y321 zfah)) % 256) [.int .u8 ((48 + (rd y321 zfah)) % 256)] (fun k_ => some k_ ≠ (.slice (some ad324) y321.length co9 : Value).ownBlock) (fun _ => False) rfl rfl ?aP (fun _ hk => hk.elim) ?aF ?aO ?aB ?aS ?aL ?_; (case aP => exact rfl); (case aB => exact (by repeat (first | (with_reducible first | exact HB.out | apply zfaf | apply zfad | apply zfae) | exact HB.out))); (case aF => exact (fun k_ hk => Kd.fresh' (Kd.R_lt (by (with_reducible repeat (first | apply Kd.R_alloc | apply Kd.R_drewN | apply Kd.R_drew)); exact HO_21.out)) k_ hk)); (case aO => exact (by (with_reducible repeat (first | apply Kd.R_alloc | apply Kd.R_drewN | apply Kd.R_drew)); exact HO_3.out)); (case aS => exact (below_size (by repeat (first | (with_reducible first | exact HB.out | apply zfaf | apply zfad | apply zfae) | exact HB.out)))); (case aL => have := LMc14.out; omega); intro v326 w15 ho hb hg hat; rw [← Ny325.out] at ho; have n0_ := zfag (Kd.R_after (ok := (fun _ => True)) (by (with_reducible repeat (first | apply Kd.R_alloc | apply Kd.R_drewN | apply Kd.R_drew)); exact Kd.R_mono HO_21.out (fun _ hk => ⟨trivial, hk⟩)) hg hat); have n1_ := zfag (hb); have n2_ := zfag (ho); clear HO_21; clear HB; clear HO_3; have HO_21 := n0_; have HB := n1_; have HO327 := n2_; clear n0_ n1_ n2_; clear ho hb hg hat))
            go_roundg k2
            case measure => have := HK1.out; have := HK2.out; omega
            case rel => exact ⟨(y325), (wrap64 (zfah + 1)), (by first | rfl | (simp; done) | (simp [*]; done)), H', ⟨by have := HK1.out; have := HK2.out; omega⟩, ⟨by (with_reducible repeat (first | apply Kd.R_alloc | apply Kd.R_drewN | apply Kd.R_drew)); exact HO327.out⟩, ⟨by (with_reducible repeat (first | apply Kd.R_alloc | apply Kd.R_drewN | apply Kd.R_drew)); exact Kd.R_mono HO_21.out (fun _ hk => hk.2)⟩, ⟨by repeat (first | (with_reducible first | exact HB.out | apply zfaf | apply zfad | apply zfae) | exact HB.out)⟩⟩
           ·rw [if_neg c14] at H
            exact absurd H (by simp)
          ·rw [if_neg c13] at H
           have c13b0 : decide ((rd y321 zfah) < 10) = false := decide_eq_false c13
           clear c13
           by_cases c16 : zfaj.length < 140737488355328
           ·rw [if_pos c16] at H
            have LMc16 := zfag c16
            clear c16
            obtain ⟨y328, hy328⟩ : ∃ y_ : List Int, y_ = (zfaj ++ [(87 + (rd y321 zfah)) % 256]) := ⟨_, rfl⟩
            replace H : (stowageref03_Hex.l1 k2 a0 y328 zfai y321 (y321.length : Int) (wrap64 (zfah + 1))) = some r := by first | (rw [hy328]; with_reducible exact H) | (have H2_ := (Option.bind_some _ _).symm.trans H; rw [hy328]; with_reducible exact H2_) | (have H2_ := (Option.bind_some _ _).symm.trans H; with_reducible exact H2_) | with_reducible exact H | (rw [hy328]; exact H) | exact H
            have Ny328 := zfag hy328
            clear hy328
            have H' := zfag H
            clear H
            have p324 : 0 ≤ (zfah : Int) := of_decide_eq_true (by first | (with_reducible assumption) | assumption)
            have q324 : zfah < (y321.length : Int) := of_decide_eq_true (by first | (with_reducible assumption) | assumption)
            obtain ⟨ad324, e324, hx324_0⟩ := Kd.at_int (Kd.R_reads' HO_21.out).2.2 zfah p324 q324
            cases e324
            replace p324 := eq_true p324
            replace q324 := eq_true q324
            go_wp2_with (first | ((with_reducible refine gate_builtin (b := .append) (xs := #[.tmp 34, .tmp 37]) rfl ?_); at_builtin; refine Kd.R_append (Kd.int .u8) (w0 := w) w.heap.size rfl (.tmp 34) (.tmp 37) 72 5 (.int .u8 0) 1 rfl Tryz.underlying72 info5 rfl (by decide) (by omega) u3 zfaj ((87 + (rd y321 zfah)) % 256) [.int .u8 ((87 + (rd y321 zfah)) % 256)] (fun k_ => some k_ ≠ (.slice (some ad324) y321.length co9 : Value).ownBlock) (fun _ => False) rfl rfl ?aP (fun _ hk => hk.elim) ?aF ?aO ?aB ?aS ?aL ?_; (case aP => exact rfl); (case aB => exact (by repeat (first | (with_reducible first | exact HB.out | apply zfaf | apply zfad | apply zfae) | exact HB.out))); (case aF => exact (fun k_ hk => Kd.fresh' (Kd.R_lt (by (with_reducible repeat (first | apply Kd.R_alloc | apply Kd.R_drewN | apply Kd.R_drew)); exact HO_21.out)) k_ hk)); (case aO => exact (by (with_reducible repeat (first | apply Kd.R_alloc | apply Kd.R_drewN | apply Kd.R_drew)); exact HO_3.out)); (case aS => exact (below_size (by repeat (first | (with_reducible first | exact HB.out | apply zfaf | apply zfad | apply zfae) | exact HB.out)))); (case aL => have := LMc16.out; omega); intro v329 w17 ho hb hg hat; rw [← Ny328.out] at ho; have n0_ := zfag (Kd.R_after (ok := (fun _ => True)) (by (with_reducible repeat (first | apply Kd.R_alloc | apply Kd.R_drewN | apply Kd.R_drew)); exact Kd.R_mono HO_21.out (fun _ hk => ⟨trivial, hk⟩)) hg hat); have n1_ := zfag (hb); have n2_ := zfag (ho); clear HO_21; clear HB; clear HO_3; have HO_21 := n0_; have HB := n1_; have HO330 := n2_; clear n0_ n1_ n2_; clear ho hb hg hat))
            go_roundg k2
            case measure => have := HK1.out; have := HK2.out; omega
            case rel => exact ⟨(y328), (wrap64 (zfah + 1)), (by first | rfl | (simp; done) | (simp [*]; done)), H', ⟨by have := HK1.out; have := HK2.out; omega⟩, ⟨by (with_reducible repeat (first | apply Kd.R_alloc | apply Kd.R_drewN | apply Kd.R_drew)); exact HO330.out⟩, ⟨by (with_reducible repeat (first | apply Kd.R_alloc | apply Kd.R_drewN | apply Kd.R_drew)); exact Kd.R_mono HO_21.out (fun _ hk => hk.2)⟩, ⟨by repeat (first | (with_reducible first | exact HB.out | apply zfaf | apply zfad | apply zfae) | exact HB.out)⟩⟩
           ·rw [if_neg c16] at H
            exact absurd H (by simp)
         ·rw [if_neg c12] at H
          exact absurd H (by simp)
        ·rw [if_neg c11] at H
         exact absurd H (by simp)
       ·rw [if_neg c10] at H
        have c10b0 : decide (zfah < (y321.length : Int)) = false := decide_eq_false c10
        clear c10
        have H' := zfag H
        clear H
        go_wp2
        go_roundg k2
        case measure => have := HK1.out; have := HK2.out; omega
        case rel => exact ⟨(zfaj), (wrap64 (zfai + 1)), (by first | rfl | (simp; done) | (simp [*]; done)), H', ⟨by have := HK1.out; have := HK2.out; omega⟩, ⟨by (with_reducible repeat (first | apply Kd.R_alloc | apply Kd.R_drewN | apply Kd.R_drew)); exact Kd.R_mono HO_3.out (fun _ hk => trivial)⟩, ⟨by repeat (first | (with_reducible first | exact HB.out | apply zfaf | apply zfad | apply zfae) | exact HB.out)⟩⟩
    ·rw [if_neg c3] at H
     exact absurd H (by simp)
   ·rw [if_neg c2] at H
    have c2b0 : decide (zfai < (a0.size : Int)) = false := decide_eq_false c2
    clear c2
    obtain rfl := Option.some.inj H
    have hcv18 := own_string (P := Tryz.prog) Tryz.underlying72 Tryz.underlying5 Tryz.underlying9 (Kd.own_of_R HO_3.out)
    go_wp2
    go_ret
    exact ⟨by first | rfl | (simp [errW_none, errW_some] <;> rfl) | (simp [*, errW_none, errW_some] <;> rfl), by repeat (first | (with_reducible first | exact HB.out | apply zfaf | apply zfad | apply zfae) | exact HB.out)⟩
end Go.Proofs.YtpgbkeaaklglkaaGreatDoor.Q