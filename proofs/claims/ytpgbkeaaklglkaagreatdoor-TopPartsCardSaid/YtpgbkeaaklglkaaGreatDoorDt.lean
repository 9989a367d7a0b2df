

/- Functions of the document's answer, printed: tagged digests, ids. -/
import Derived.Test.YtpgbkeaaklglkaaGreatDoorRefSum
import Derived.Test.YtpgbkeaaklglkaaGreatDoorDh
namespace Go.Proofs.YtpgbkeaaklglkaaGreatDoor.Q
open Go.RowKit Go.Proofs.YtpgbkeaaklglkaaGreatDoorW.PrintWords Go.Proofs.YtpgbkeaaklglkaaGreatDoorW.PrintLast Go.Proofs.YtpgbkeaaklglkaaGreatDoorW.PrintMore
attribute [local go_sem] max2_int min2_int max_two min_two max_three min_three max_four min_four   -- for this text's walks alone
set_option linter.unusedVariables false
set_option linter.unusedSimpArgs false
attribute [local go_sem] xor_ones_u8 xor_ones_u16 xor_ones_u32 xor_ones_u64 cell_twice frozen_twice
-- given: refsum.lean
abbrev zgaa := @pw_below_drewN
abbrev zgab := @below_drew1
abbrev zgac := @below_alloc
abbrev zgad := @Aside0.mk
/-! ### stowageref03_Tagged: function 57 -/
mutual
def stowageref03_Tagged.l0 : Nat → List ByteArray → List Int → Int → Option (ByteArray)
 | 0, _, _, _ => none
 | k + 1, x1, x5, x6 => if x6 < (x1.length : Int) then (if 0 ≤ x6 then (stowageref03_Tagged.l1 k x1 x5 x6 (IntKind.u64.wrap (((rdOf ByteArray.empty x1 x6).size : Int))) 56) else (none)) else ((stowageref03_Sum.f k (strOfNums x5)).bind fun t377 => (some t377))
def stowageref03_Tagged.l1 : Nat → List ByteArray → List Int → Int → Int → Int → Option (ByteArray)
 | 0, _, _, _, _, _ => none
 | k + 1, x1, x5, x6, x7, x8 => if x8 ≥ 0 then (if 0 ≤ (IntKind.u64.wrap (x8)) then (if x5.length < 140737488355328 then (stowageref03_Tagged.l1 k x1 (x5 ++ [(shr .u64 x7 (IntKind.u64.wrap (x8))) % 256]) x6 x7 (wrap64 (x8 - 8))) else (none)) else (none)) else (if 0 ≤ x6 then (if x6 < (x1.length : Int) then (if x5.length + (rdOf ByteArray.empty x1 x6).size < 140737488355328 then (stowageref03_Tagged.l0 k x1 (x5 ++ bytesOf (rdOf ByteArray.empty x1 x6)) (wrap64 (x6 + 1))) else (none)) else (none)) else (none))
end
def stowageref03_Tagged.f (k : Nat) (a0 : Int) (l1 : List ByteArray) : Option (ByteArray) := stowageref03_Tagged.l0 k l1 (([a0] : List Int)) 0
theorem stowageref03_Tagged.mono_l : ∀ k, (∀ y0 y1 y2, LeO (stowageref03_Tagged.l0 k y0 y1 y2) (stowageref03_Tagged.l0 (k + 1) y0 y1 y2)) ∧ (∀ y0 y1 y2 y3 y4, LeO (stowageref03_Tagged.l1 k y0 y1 y2 y3 y4) (stowageref03_Tagged.l1 (k + 1) y0 y1 y2 y3 y4))
 | 0 => ⟨fun _ _ _ r h => by simp [stowageref03_Tagged.l0] at h, fun _ _ _ _ _ r h => by simp [stowageref03_Tagged.l1] at h⟩
 | k + 1 => by
  obtain ⟨ih0, ih1⟩ := stowageref03_Tagged.mono_l k
  refine ⟨?_, ?_⟩
  ·intro y0 y1 y2
   unfold stowageref03_Tagged.l0
   repeat' first
   | (with_reducible exact ih0 _ _ _)
   | (with_reducible exact ih1 _ _ _ _ _)
   | (with_reducible exact stowageref03_Sum.mono _ _)
   | (with_reducible exact LeO.refl _)
   | (with_reducible exact LeO.none _)
   | (with_reducible refine LeO.ite ?_ ?_)
   | (with_reducible refine LeO.bind ?_ (fun _ => ?_))
   | exact ih0 _ _ _
   | exact ih1 _ _ _ _ _
   | exact stowageref03_Sum.mono _ _
   | exact LeO.none _
   | refine LeO.ite ?_ ?_
   | refine LeO.bind ?_ (fun _ => ?_)
  ·intro y0 y1 y2 y3 y4
   unfold stowageref03_Tagged.l1
   repeat' first
   | (with_reducible exact ih0 _ _ _)
   | (with_reducible exact ih1 _ _ _ _ _)
   | (with_reducible exact stowageref03_Sum.mono _ _)
   | (with_reducible exact LeO.refl _)
   | (with_reducible exact LeO.none _)
   | (with_reducible refine LeO.ite ?_ ?_)
   | (with_reducible refine LeO.bind ?_ (fun _ => ?_))
   | exact ih0 _ _ _
   | exact ih1 _ _ _ _ _
   | exact stowageref03_Sum.mono _ _
   | exact LeO.none _
   | refine LeO.ite ?_ ?_
   | refine LeO.bind ?_ (fun _ => ?_)
theorem stowageref03_Tagged.mono : ∀ a0 a1 k, LeO (stowageref03_Tagged.f k a0 a1) (stowageref03_Tagged.f (k + 1) a0 a1) := by
 intro a0 a1 k
 obtain ⟨ih0, ih1⟩ := stowageref03_Tagged.mono_l k
 unfold stowageref03_Tagged.f
 repeat' first
   | (with_reducible exact ih0 _ _ _)
   | (with_reducible exact ih1 _ _ _ _ _)
   | (with_reducible exact stowageref03_Sum.mono _ _)
   | (with_reducible exact LeO.refl _)
   | (with_reducible exact LeO.none _)
   | (with_reducible refine LeO.ite ?_ ?_)
   | (with_reducible refine LeO.bind ?_ (fun _ => ?_))
   | exact ih0 _ _ _
   | exact ih1 _ _ _ _ _
   | exact stowageref03_Sum.mono _ _
   | exact LeO.none _
   | refine LeO.ite ?_ ?_
   | refine LeO.bind ?_ (fun _ => ?_)
set_option maxHeartbeats 8000000 in
set_option maxRecDepth 100000 in
theorem stowageref03_Tagged.calls (k : Nat) (a0 : Int) (A1 : Option Addr) (c1 : Nat) (l1 : List ByteArray) (r : ByteArray) (w : World) (hr1 : Kd.C Kd.string w A1 l1.length l1) (hc1 : l1.length ≤ c1) (h : stowageref03_Tagged.f k a0 l1 = some r) :
  Calls Tryz.prog 57 #[.int .u8 a0, .slice A1 l1.length c1] w fun e w' => e = .returned (.string r) ∧ Below w.heap.size w w' := by
 have HR1 := zgad hr1
 have HC1 := zgad hc1
 clear hr1 hc1
 have HB := zgad (Below.refl w.heap.size w)
 have H : (stowageref03_Tagged.l0 k l1 (([a0] : List Int)) 0) = some r := h
 clear h
 obtain ⟨y374, hy374⟩ : ∃ y_ : List Int, y_ = (([a0] : List Int)) := ⟨_, rfl⟩
 replace H : (stowageref03_Tagged.l0 k l1 y374 0) = some r := by first | (rw [hy374]; with_reducible exact H) | (have H2_ := (Option.bind_some _ _).symm.trans H; rw [hy374]; with_reducible exact H2_) | (have H2_ := (Option.bind_some _ _).symm.trans H; with_reducible exact H2_) | with_reducible exact H | (rw [hy374]; exact H) | exact H
 have Ny374 := zgad hy374
 clear hy374
 have H' := zgad H
 clear H
 go_enter Tryz.func57, Tryz.ntmps57
 go_wp2_with (first | ((with_reducible refine gate_dst (N := 10) rfl ?_); refine Kd.R_lit (Kd.int .u8) _ 5 ?hg (N := 10) ?hd (xs := ([a0] : List Int)) (inner := [.int .u8 a0]) (ok := fun _ => True) (okp := fun _ => True) ?hr ?hp (fun _ hk => hk) trivial (Below.refl _ _) (Nat.le_refl _) (by simp) ?_; (case hd => rfl); (case hg => rfl); (case hr => first | (go_simp; done) | (go_simp; rfl)); (case hp => exact (Reps.one (show Kd.M (Kd.int .u8) _ _ _ a0 [.int .u8 a0] from rfl) (Reps.none _ _))); intro v375 w3 ho4 hb hg_ hnew_; clear hg_ hnew_; (first | rw [← Ny374.out] at ho4 | (simp only [Int.reduceToNat] at ho4; rw [← Ny374.out] at ho4)); have n0_ := zgad (Kd.R_lower ho4 (below_size (by repeat (first | (with_reducible first | exact HB.out | apply zgac | apply zgaa | apply zgab) | exact HB.out)))); have n1_ := zgad (below_step (by repeat (first | (with_reducible first | exact HB.out | apply zgac | apply zgaa | apply zgab) | exact HB.out)) hb); clear HB; have HO376 := n0_; have HB := n1_; clear n0_ n1_; clear hb ho4))
 go_loopg [5, 6] k (fun kq v5 v6 w' => ∃ (zgah : List Int) (zgae : Int), v6 = .int .i64 zgae ∧ Aside0 (stowageref03_Tagged.l0 kq l1 zgah zgae = some r) ∧ Aside0 (kq ≤ k) ∧ Aside0 (Kd.R (Kd.int .u8) 5 w' w.heap.size (fun _ => True) v5 zgah) ∧ Aside0 (Below w.heap.size w w'))
 case atStart => exact ⟨(y374), (0), (by first | rfl | (simp; done) | (simp [*]; done)), H', ⟨Nat.le_refl _⟩, ⟨by (with_reducible repeat (first | apply Kd.R_alloc | apply Kd.R_drewN | apply Kd.R_drew)); exact HO376.out⟩, ⟨by repeat (first | (with_reducible first | exact HB.out | apply zgac | apply zgaa | apply zgab) | exact HB.out)⟩⟩
 case round =>
  clear H'
  try clear c1
  try clear p2
  obtain ⟨zgah, zgae, rfl, HA, HK1, HO_5, HB⟩ := hrel
  cases gk with
  | zero => exact absurd HA.out (by simp [stowageref03_Tagged.l0])
  | succ k1 =>
   have H := HA.out
   clear HA
   simp only [stowageref03_Tagged.l0] at H
   by_cases c5 : zgae < (l1.length : Int)
   ·rw [if_pos c5] at H
    have c5b0 : decide (zgae < (l1.length : Int)) = true := decide_eq_true c5
    clear c5
    by_cases c6 : 0 ≤ zgae
    ·rw [if_pos c6] at H
     have c6b0 : decide (0 ≤ zgae) = true := decide_eq_true c6
     clear c6
     have H' := zgad H
     clear H
     have p378 : 0 ≤ (zgae : Int) := of_decide_eq_true (by first | (with_reducible assumption) | assumption)
     have q378 : zgae < (l1.length : Int) := of_decide_eq_true (by first | (with_reducible assumption) | assumption)
     obtain ⟨ad378, e378, hx378_0⟩ := Kd.at_string HR1.out zgae p378 q378
     cases e378
     replace hx378_0 := (HB.out.cell (World.block_lt_of_cell? w _ hx378_0)).trans hx378_0
     replace p378 := eq_true p378
     replace q378 := eq_true q378
     go_wp2
     go_loopg [5, 8] k1 (fun kq v5 v8 w' => ∃ (zgaf : List Int) (zgag : Int), v8 = .int .i64 zgag ∧ Aside0 (stowageref03_Tagged.l1 kq l1 zgaf zgae (IntKind.u64.wrap (((rdOf ByteArray.empty l1 zgae).size : Int))) zgag = some r) ∧ Aside0 (kq ≤ k1) ∧ Aside0 (Kd.R (Kd.int .u8) 5 w' w.heap.size (fun _ => True) v5 zgaf) ∧ Aside0 (Below w.heap.size w w'))
     case atStart => exact ⟨(zgah), (56), (by first | rfl | (simp; done) | (simp [*]; done)), H', ⟨Nat.le_refl _⟩, ⟨by (with_reducible repeat (first | apply Kd.R_alloc | apply Kd.R_drewN | apply Kd.R_drew)); exact HO_5.out⟩, ⟨by repeat (first | (with_reducible first | exact HB.out | apply zgac | apply zgaa | apply zgab) | exact HB.out)⟩⟩
     case round =>
      clear H'
      try clear c1
      try clear p2
      try clear p3
      try clear q3
      try clear hx3
      try clear c5
      try clear c5b0
      try clear c6
      try clear c6b0
      try clear hx378_0
      try clear p2
      try clear p378
      try clear q378
      obtain ⟨zgaf, zgag, rfl, HA, HK2, HO_5, HB⟩ := hrel
      cases gk with
      | zero => exact absurd HA.out (by simp [stowageref03_Tagged.l1])
      | succ k2 =>
       have H := HA.out
       clear HA
       simp only [stowageref03_Tagged.l1] at H
       by_cases c7 : zgag ≥ 0
       ·rw [if_pos c7] at H
        have c7b0 : decide (0 ≤ zgag) = true := decide_eq_true c7
        clear c7
        obtain ⟨ji8, hji8⟩ : ∃ j_ : Int, (IntKind.u64.wrap (zgag)) = j_ := ⟨_, rfl⟩
        replace H : (if 0 ≤ (ji8) then (if zgaf.length < 140737488355328 then (stowageref03_Tagged.l1 k2 l1 (zgaf ++ [(shr .u64 (IntKind.u64.wrap (((rdOf ByteArray.empty l1 zgae).size : Int))) (ji8)) % 256]) zgae (IntKind.u64.wrap (((rdOf ByteArray.empty l1 zgae).size : Int))) (wrap64 (zgag - 8))) else (none)) else (none)) = some r := by first | (rw [hji8] at H; exact H) | (simp only [hji8] at H ⊢; exact H)
        by_cases c9 : 0 ≤ (ji8)
        ·rw [if_pos c9] at H
         have c9b0 := eq_true c9
         have c9b1 : decide (0 ≤ (ji8)) = true := decide_eq_true c9
         clear c9
         obtain ⟨ji10, hji10⟩ : ∃ j_ : Int, (shr .u64 (IntKind.u64.wrap (((rdOf ByteArray.empty l1 zgae).size : Int))) (ji8)) = j_ := ⟨_, rfl⟩
         replace H : (if zgaf.length < 140737488355328 then (stowageref03_Tagged.l1 k2 l1 (zgaf ++ [(ji10) % 256]) zgae (IntKind.u64.wrap (((rdOf ByteArray.empty l1 zgae).size : Int))) (wrap64 (zgag - 8))) else (none)) = some r := by first | (rw [hji10] at H; exact H) | (simp only [hji10] at H ⊢; exact H)
         have hji10_ : ((IntKind.u64.wrap (((rdOf ByteArray.empty l1 zgae).size : Int))) / 2 ^ min (ji8).toNat 64) = ji10 := hji10
         have hji10z : (ji8) ≤ 64 → ((IntKind.u64.wrap (((rdOf ByteArray.empty l1 zgae).size : Int))) / 2 ^ (ji8).toNat) = ji10 := shr_small hji10
         by_cases c11 : zgaf.length < 140737488355328
         ·rw [if_pos c11] at H
          have LMc11 := zgad c11
          clear c11
          obtain ⟨y379, hy379⟩ : ∃ y_ : List Int, y_ = (zgaf ++ [(ji10) % 256]) := ⟨_, rfl⟩
          replace H : (stowageref03_Tagged.l1 k2 l1 y379 zgae (IntKind.u64.wrap (((rdOf ByteArray.empty l1 zgae).size : Int))) (wrap64 (zgag - 8))) = some r := by first | (rw [hy379]; with_reducible exact H) | (have H2_ := (Option.bind_some _ _).symm.trans H; rw [hy379]; with_reducible exact H2_) | (have H2_ := (Option.bind_some _ _).symm.trans H; with_reducible exact H2_) | with_reducible exact H | (rw [hy379]; exact H) | exact H
          have Ny379 := zgad hy379
          clear hy379
          have H' := zgad H
          clear H
          go_wp2_with (first | ((with_reducible refine gate_builtin (b := .append) (xs := #[.tmp 27, .tmp 33]) rfl ?_); at_builtin; refine Kd.R_append (Kd.int .u8) (w0 := w) w.heap.size rfl (.tmp 27) (.tmp 33) 72 5 (.int .u8 0) 1 rfl Tryz.underlying72 info5 rfl (by decide) (by omega) u5 zgaf ((ji10) % 256) [.int .u8 ((ji10) % 256)] (fun _ => True) (fun _ => False) rfl rfl ?aP (fun _ hk => hk.elim) ?aF ?aO ?aB ?aS ?aL ?_; (case aP => exact rfl); (case aB => exact (by repeat (first | (with_reducible first | exact HB.out | apply zgac | apply zgaa | apply zgab) | exact HB.out))); (case aF => exact (fun _ _ => trivial)); (case aO => exact (by (with_reducible repeat (first | apply Kd.R_alloc | apply Kd.R_drewN | apply Kd.R_drew)); exact HO_5.out)); (case aS => exact (below_size (by repeat (first | (with_reducible first | exact HB.out | apply zgac | apply zgaa | apply zgab) | exact HB.out)))); (case aL => have := LMc11.out; omega); intro v380 w12 ho hb hg hat; rw [← Ny379.out] at ho; have n0_ := zgad (hb); have n1_ := zgad (ho); clear HB; clear HO_5; have HB := n0_; have HO381 := n1_; clear n0_ n1_; clear ho hb hg hat))
          go_roundg k2
          case measure => have := HK1.out; have := HK2.out; omega
          case rel => exact ⟨(y379), (wrap64 (zgag - 8)), (by first | rfl | (simp; done) | (simp [*]; done)), H', ⟨by have := HK1.out; have := HK2.out; omega⟩, ⟨by (with_reducible repeat (first | apply Kd.R_alloc | apply Kd.R_drewN | apply Kd.R_drew)); exact HO381.out⟩, ⟨by repeat (first | (with_reducible first | exact HB.out | apply zgac | apply zgaa | apply zgab) | exact HB.out)⟩⟩
         ·rw [if_neg c11] at H
          exact absurd H (by simp)
        ·rw [if_neg c9] at H
         exact absurd H (by simp)
       ·rw [if_neg c7] at H
        have c7b0 : decide (0 ≤ zgag) = false := decide_eq_false c7
        clear c7
        by_cases c13 : 0 ≤ zgae
        ·rw [if_pos c13] at H
         have c13b0 : decide (0 ≤ zgae) = true := decide_eq_true c13
         clear c13
         by_cases c14 : zgae < (l1.length : Int)
         ·rw [if_pos c14] at H
          have c14b0 : decide (zgae < (l1.length : Int)) = true := decide_eq_true c14
          clear c14
          by_cases c15 : zgaf.length + (rdOf ByteArray.empty l1 zgae).size < 140737488355328
          ·rw [if_pos c15] at H
           have LMc15 := zgad c15
           clear c15
           obtain ⟨y383, hy383⟩ : ∃ y_ : List Int, y_ = (zgaf ++ bytesOf (rdOf ByteArray.empty l1 zgae)) := ⟨_, rfl⟩
           replace H : (stowageref03_Tagged.l0 k2 l1 y383 (wrap64 (zgae + 1))) = some r := by first | (rw [hy383]; with_reducible exact H) | (have H2_ := (Option.bind_some _ _).symm.trans H; rw [hy383]; with_reducible exact H2_) | (have H2_ := (Option.bind_some _ _).symm.trans H; with_reducible exact H2_) | with_reducible exact H | (rw [hy383]; exact H) | exact H
           have Ny383 := zgad hy383
           clear hy383
           have H' := zgad H
           clear H
           have p382 : 0 ≤ (zgae : Int) := of_decide_eq_true (by first | (with_reducible assumption) | assumption)
           have q382 : zgae < (l1.length : Int) := of_decide_eq_true (by first | (with_reducible assumption) | assumption)
           obtain ⟨ad382, e382, hx382_0⟩ := Kd.at_string HR1.out zgae p382 q382
           obtain rfl : ad378 = ad382 := (by injection e382)
           replace hx382_0 := (HB.out.cell (World.block_lt_of_cell? w _ hx382_0)).trans hx382_0
           replace p382 := eq_true p382
           replace q382 := eq_true q382
           go_wp2_with (first | (at_builtin; refine print_append_str (w0 := w) w.heap.size rfl (.tmp 35) _ 72 9 5 rfl Tryz.underlying72 Tryz.underlying9 info5 u5 zgaf (rdOf ByteArray.empty l1 zgae) rfl rfl ?aO ?aB ?aS ?aL ?_; (case aB => exact (by repeat (first | (with_reducible first | exact HB.out | apply zgac | apply zgaa | apply zgab) | exact HB.out))); (case aO => exact (Kd.own_of_R (by (with_reducible repeat (first | apply Kd.R_alloc | apply Kd.R_drewN | apply Kd.R_drew)); exact HO_5.out))); (case aS => exact (below_size (by repeat (first | (with_reducible first | exact HB.out | apply zgac | apply zgaa | apply zgab) | exact HB.out)))); (case aL => have := LMc15.out; omega); intro v384 w16 ho0 hb hg; have ho := Kd.R_of_own (h1 := fun _ => rfl) (ok := fun _ => True) ho0 (fun _ _ => trivial); clear ho0; have hat := True.intro; rw [← Ny383.out] at ho; change Kd.R (Kd.int .u8) 5 w16 w.heap.size (fun _ => True) v384 y383 at ho; have n0_ := zgad (hb); have n1_ := zgad (ho); clear HB; clear HO_5; have HB := n0_; have HO385 := n1_; clear n0_ n1_; clear ho hb hg hat))
           go_roundg k2
           case measure => have := HK1.out; have := HK2.out; omega
           case rel => exact ⟨(y383), (wrap64 (zgae + 1)), (by first | rfl | (simp; done) | (simp [*]; done)), H', ⟨by have := HK1.out; have := HK2.out; omega⟩, ⟨by (with_reducible repeat (first | apply Kd.R_alloc | apply Kd.R_drewN | apply Kd.R_drew)); exact HO385.out⟩, ⟨by repeat (first | (with_reducible first | exact HB.out | apply zgac | apply zgaa | apply zgab) | exact HB.out)⟩⟩
          ·rw [if_neg c15] at H
           exact absurd H (by simp)
         ·rw [if_neg c14] at H
          exact absurd H (by simp)
        ·rw [if_neg c13] at H
         exact absurd H (by simp)
    ·rw [if_neg c6] at H
     exact absurd H (by simp)
   ·rw [if_neg c5] at H
    have c5b0 : decide (zgae < (l1.length : Int)) = false := decide_eq_false c5
    clear c5
    replace H := Option.bind_eq_some_iff.mp H
    obtain ⟨t377, A170, H⟩ := H
    replace H : (some t377) = some r := H
    have A17 := zgad A170
    clear A170
    obtain rfl := Option.some.inj H
    have hcv18 := own_string (P := Tryz.prog) Tryz.underlying72 Tryz.underlying5 Tryz.underlying9 (Kd.own_of_R HO_5.out)
    go_wp2_with (first | ((with_reducible refine gate_callee (f := 74) rfl ?_); refine goesL_ (some 43) rfl rfl Tryz.func74 (by kernel_rfl) rfl #[.string (strOfNums zgah)] rfl (by (try simp only [List.map_toArray, List.map_cons, List.map_nil]); first | done | rfl) ?_; (with_reducible refine (stowageref03_Sum.calls k1 (strOfNums zgah) t377 _ A17.out).mono ?_); rintro e w19 ⟨rfl, hb⟩; refine ⟨_, rfl, ?_⟩; have n0_ := zgad (Kd.R_below (by (with_reducible repeat (first | apply Kd.R_alloc | apply Kd.R_drewN | apply Kd.R_drew)); exact HO_5.out) hb); have n1_ := zgad (below_step (by repeat (first | (with_reducible first | exact HB.out | apply zgac | apply zgaa | apply zgab) | exact HB.out)) hb); clear HO_5; clear HB; have HO_5 := n0_; have HB := n1_; clear n0_ n1_; (try clear hb); (try clear hk); (try clear hi)))
    go_ret
    exact ⟨by first | rfl | (simp [errW_none, errW_some] <;> rfl) | (simp [*, errW_none, errW_some] <;> rfl), by repeat (first | (with_reducible first | exact HB.out | apply zgac | apply zgaa | apply zgab) | exact HB.out)⟩
/-! ### stowageref06_ID: function 31 -/
def stowageref06_ID.f (k : Nat) (a0 : ByteArray) : Option (ByteArray) := (stowageref03_Tagged.f k 69 (([a0] : List ByteArray))).bind fun t389 => ((stowageref03_Hex.f k t389).bind fun t390 => (some t390))
theorem stowageref06_ID.mono : ∀ a0 k, LeO (stowageref06_ID.f k a0) (stowageref06_ID.f (k + 1) a0) := by
 intro a0 k
 unfold stowageref06_ID.f
 repeat' first
   | (with_reducible exact stowageref03_Hex.mono _ _)
   | (with_reducible exact stowageref03_Tagged.mono _ _ _)
   | (with_reducible exact LeO.refl _)
   | (with_reducible exact LeO.none _)
   | (with_reducible refine LeO.ite ?_ ?_)
   | (with_reducible refine LeO.bind ?_ (fun _ => ?_))
   | exact stowageref03_Hex.mono _ _
   | exact stowageref03_Tagged.mono _ _ _
   | exact LeO.none _
   | refine LeO.ite ?_ ?_
   | refine LeO.bind ?_ (fun _ => ?_)
set_option maxHeartbeats 8000000 in
set_option maxRecDepth 100000 in
theorem stowageref06_ID.calls (k : Nat) (a0 : ByteArray) (r : ByteArray) (w : World) (h : stowageref06_ID.f k a0 = some r) :
  Calls Tryz.prog 31 #[.string a0] w fun e w' => e = .returned (.string r) ∧ Below w.heap.size w w' := by
 have HB := zgad (Below.refl w.heap.size w)
 have H : ((stowageref03_Tagged.f k 69 (([a0] : List ByteArray))).bind fun t389 => ((stowageref03_Hex.f k t389).bind fun t390 => (some t390))) = some r := h
 clear h
 obtain ⟨y386, hy386⟩ : ∃ y_ : List ByteArray, y_ = (([a0] : List ByteArray)) := ⟨_, rfl⟩
 replace H : ((stowageref03_Tagged.f k 69 y386).bind fun t389 => ((stowageref03_Hex.f k t389).bind fun t390 => (some t390))) = some r := by first | (rw [hy386]; with_reducible exact H) | (have H2_ := (Option.bind_some _ _).symm.trans H; rw [hy386]; with_reducible exact H2_) | (have H2_ := (Option.bind_some _ _).symm.trans H; with_reducible exact H2_) | with_reducible exact H | (rw [hy386]; exact H) | exact H
 have Ny386 := zgad hy386
 clear hy386
 replace H := Option.bind_eq_some_iff.mp H
 obtain ⟨t389, A20, H⟩ := H
 replace H : ((stowageref03_Hex.f k t389).bind fun t390 => (some t390)) = some r := H
 have A2 := zgad A20
 clear A20
 replace H := Option.bind_eq_some_iff.mp H
 obtain ⟨t390, A30, H⟩ := H
 replace H : (some t390) = some r := H
 have A3 := zgad A30
 clear A30
 obtain rfl := Option.some.inj H
 go_enter Tryz.func31, Tryz.ntmps31
 go_wp2_with (first | ((with_reducible refine gate_dst (N := 4) rfl ?_); refine Kd.R_lit Kd.string _ 9 ?hg (N := 4) ?hd (xs := ([a0] : List ByteArray)) (inner := [.string a0]) (ok := fun _ => True) (okp := fun _ => True) ?hr ?hp (fun _ hk => hk) trivial (Below.refl _ _) (Nat.le_refl _) (by simp) ?_; (case hd => rfl); (case hg => rfl); (case hr => first | (go_simp; done) | (go_simp; rfl)); (case hp => exact (Reps.one (show Kd.M Kd.string _ _ _ a0 [.string a0] from rfl) (Reps.none _ _))); intro v387 w4 ho5 hb hg_ hnew_; clear hg_ hnew_; (first | rw [← Ny386.out] at ho5 | (simp only [Int.reduceToNat] at ho5; rw [← Ny386.out] at ho5)); have n0_ := zgad (Kd.R_lower ho5 (below_size (by repeat (first | (with_reducible first | exact HB.out | apply zgac | apply zgaa | apply zgab) | exact HB.out)))); have n1_ := zgad (below_step (by repeat (first | (with_reducible first | exact HB.out | apply zgac | apply zgaa | apply zgab) | exact HB.out)) hb); clear HB; have HO388 := n0_; have HB := n1_; clear n0_ n1_; clear hb ho5; obtain ⟨Ao6, co6, eo6⟩ := Kd.R_slice HO388.out; subst eo6) | ((with_reducible refine gate_callee (f := 57) rfl ?_); refine goesL_ (some 5) rfl rfl Tryz.func57 (by kernel_rfl) rfl #[.int .u8 69, .slice Ao6 y386.length co6] rfl (by (try simp only [List.map_toArray, List.map_cons, List.map_nil]); first | done | rfl) ?_; (with_reducible refine (stowageref03_Tagged.calls k 69 _ _ y386 t389 _ ?side1 ?side2 A2.out).mono ?_); (case side1 => repeat (first | exact (Kd.R_reads' HO388.out).2.2 | (with_reducible refine Kd.C_alloc ?_ _) | (with_reducible refine Kd.C_drewN ?_ _) | (with_reducible refine Kd.C_drew ?_))); (case side2 => exact (Kd.R_reads' HO388.out).2.1); rintro e w7 ⟨rfl, hb⟩; refine ⟨_, rfl, ?_⟩; have n0_ := zgad (Kd.R_below (by (with_reducible repeat (first | apply Kd.R_alloc | apply Kd.R_drewN | apply Kd.R_drew)); exact HO388.out) hb); have n1_ := zgad (below_step (by repeat (first | (with_reducible first | exact HB.out | apply zgac | apply zgaa | apply zgab) | exact HB.out)) hb); clear HO388; clear HB; have HO388 := n0_; have HB := n1_; clear n0_ n1_; (try clear hb); (try clear hk); (try clear hi)) | ((with_reducible refine gate_callee (f := 56) rfl ?_); refine goesL_ (some 6) rfl rfl Tryz.func56 (by kernel_rfl) rfl #[.string t389] rfl (by (try simp only [List.map_toArray, List.map_cons, List.map_nil]); first | done | rfl) ?_; (with_reducible refine (stowageref03_Hex.calls k t389 t390 _ A3.out).mono ?_); rintro e w8 ⟨rfl, hb⟩; refine ⟨_, rfl, ?_⟩; have n0_ := zgad (Kd.R_below (by (with_reducible repeat (first | apply Kd.R_alloc | apply Kd.R_drewN | apply Kd.R_drew)); exact HO388.out) hb); have n1_ := zgad (below_step (by repeat (first | (with_reducible first | exact HB.out | apply zgac | apply zgaa | apply zgab) | exact HB.out)) hb); clear HO388; clear HB; have HO388 := n0_; have HB := n1_; clear n0_ n1_; (try clear hb); (try clear hk); (try clear hi)))
 go_ret
 exact ⟨by first | rfl | (simp [errW_none, errW_some] <;> rfl) | (simp [*, errW_none, errW_some] <;> rfl), by repeat (first | (with_reducible first | exact HB.out | apply zgac | apply zgaa | apply zgab) | exact HB.out)⟩
end Go.Proofs.YtpgbkeaaklglkaaGreatDoor.Q