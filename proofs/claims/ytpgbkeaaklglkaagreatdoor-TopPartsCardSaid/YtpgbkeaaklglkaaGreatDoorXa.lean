

/- Functions of the given program, printed: extents' pieces and files. -/
import Derived.Test.YtpgbkeaaklglkaaGreatDoorFa
namespace Go.Proofs.YtpgbkeaaklglkaaGreatDoor.Q
open Go.RowKit Go.Proofs.YtpgbkeaaklglkaaGreatDoorW.PrintWords Go.Proofs.YtpgbkeaaklglkaaGreatDoorW.PrintLast Go.Proofs.YtpgbkeaaklglkaaGreatDoorW.PrintMore
attribute [local go_sem] max2_int min2_int max_two min_two max_three min_three max_four min_four   -- for this text's walks alone
set_option linter.unusedVariables false
set_option linter.unusedSimpArgs false
attribute [local go_sem] xor_ones_u8 xor_ones_u16 xor_ones_u32 xor_ones_u64 cell_twice frozen_twice
abbrev ziaa := @pw_below_drewN
abbrev ziab := @below_drew1
abbrev ziac := @below_alloc
abbrev ziad := @Aside0.mk
/-! ### extent_pieces: function 42 -/
def extent_pieces.l0 : Nat → ByteArray → Int → List ByteArray → Option (List ByteArray)
 | 0, _, _, _ => none
 | k + 1, x0, x1, x5 => if (x0.size : Int) > 0 then (if 0 ≤ (mn x1 (x0.size : Int)) then (if (mn x1 (x0.size : Int)) ≤ (x0.size : Int) then (if x5.length < 8796093022208 then (extent_pieces.l0 k (x0.extract ((mn x1 (x0.size : Int)) : Int).toNat x0.size) x1 (x5 ++ [x0.extract 0 ((mn x1 (x0.size : Int)) : Int).toNat])) else (none)) else (none)) else (none)) else (some x5)
def extent_pieces.f (k : Nat) (a0 : ByteArray) (a1 : Int) : Option (List ByteArray) := extent_pieces.l0 k a0 a1 ([] : List ByteArray)
theorem extent_pieces.mono_l : ∀ k, (∀ y0 y1 y2, LeO (extent_pieces.l0 k y0 y1 y2) (extent_pieces.l0 (k + 1) y0 y1 y2))
 | 0 => fun _ _ _ r h => by simp [extent_pieces.l0] at h
 | k + 1 => by
  have ih0 := extent_pieces.mono_l k
  ·intro y0 y1 y2
   unfold extent_pieces.l0
   repeat' first
   | (with_reducible exact ih0 _ _ _)
   | (with_reducible exact LeO.refl _)
   | (with_reducible exact LeO.none _)
   | (with_reducible refine LeO.ite ?_ ?_)
   | (with_reducible refine LeO.bind ?_ (fun _ => ?_))
   | exact ih0 _ _ _
   | exact LeO.none _
   | refine LeO.ite ?_ ?_
   | refine LeO.bind ?_ (fun _ => ?_)
theorem extent_pieces.mono : ∀ a0 a1 k, LeO (extent_pieces.f k a0 a1) (extent_pieces.f (k + 1) a0 a1) := by
 intro a0 a1 k
 have ih0 := extent_pieces.mono_l k
 unfold extent_pieces.f
 repeat' first
   | (with_reducible exact ih0 _ _ _)
   | (with_reducible exact LeO.refl _)
   | (with_reducible exact LeO.none _)
   | (with_reducible refine LeO.ite ?_ ?_)
   | (with_reducible refine LeO.bind ?_ (fun _ => ?_))
   | exact ih0 _ _ _
   | exact LeO.none _
   | refine LeO.ite ?_ ?_
   | refine LeO.bind ?_ (fun _ => ?_)
set_option maxHeartbeats 8000000 in
set_option maxRecDepth 100000 in
theorem extent_pieces.calls (k : Nat) (a0 : ByteArray) (a1 : Int) (r : List ByteArray) (w : World) (h : extent_pieces.f k a0 a1 = some r) :
  Calls Tryz.prog 42 #[.string a0, .int .i64 a1] w fun e w' => ∃ v0_ : Value, e = .returned (v0_) ∧ Kd.R Kd.string 9 w' w.heap.size (fun _ => True) v0_ r ∧ Below w.heap.size w w' := by
 have HB := ziad (Below.refl w.heap.size w)
 have H : (extent_pieces.l0 k a0 a1 ([] : List ByteArray)) = some r := h
 clear h
 have H' := ziad H
 clear H
 go_enter Tryz.func42, Tryz.ntmps42
 go_wp2
 go_loopg [0, 5] k (fun kq v0 v5 w' => ∃ (ziae : ByteArray) (ziah : List ByteArray), v0 = .string ziae ∧ Aside0 (extent_pieces.l0 kq ziae a1 ziah = some r) ∧ Aside0 (kq ≤ k) ∧ Aside0 (Kd.R Kd.string 9 w' w.heap.size (fun _ => True) v5 ziah) ∧ Aside0 (Below w.heap.size w w'))
 case atStart => exact ⟨(a0), (([] : List ByteArray)), (by first | rfl | (simp; done) | (simp [*]; done)), H', ⟨Nat.le_refl _⟩, ⟨by first | exact Kd.R_nil _ _ _ _ _ | exact Kd.N_nil _ _ _ _ _ | exact Kd.V_nil _ _ _ _ _ | exact Kd.Q_nil _ _ _ _ _ | exact Kd.S_nil _ _ _ _ _⟩, ⟨by repeat (first | (with_reducible first | exact HB.out | apply ziac | apply ziaa | apply ziab) | exact HB.out)⟩⟩
 case round =>
  clear H'
  try clear p2
  obtain ⟨ziae, ziah, rfl, HA, HK1, HO_5, HB⟩ := hrel
  cases gk with
  | zero => exact absurd HA.out (by simp [extent_pieces.l0])
  | succ k1 =>
   have H := HA.out
   clear HA
   simp only [extent_pieces.l0] at H
   by_cases c3 : (ziae.size : Int) > 0
   ·rw [if_pos c3] at H
    have c3b0 : decide (0 < (ziae.size : Int)) = true := decide_eq_true c3
    have c3b1 : decide (0 < ziae.size) = true := decide_eq_true (by omega)
    clear c3
    obtain ⟨ji4, hji4⟩ : ∃ j_ : Int, (mn a1 (ziae.size : Int)) = j_ := ⟨_, rfl⟩
    replace H : (if 0 ≤ (ji4) then (if (ji4) ≤ (ziae.size : Int) then (if ziah.length < 8796093022208 then (extent_pieces.l0 k1 (ziae.extract ((ji4) : Int).toNat ziae.size) a1 (ziah ++ [ziae.extract 0 ((ji4) : Int).toNat])) else (none)) else (none)) else (none)) = some r := by first | (rw [hji4] at H; exact H) | (simp only [hji4] at H ⊢; exact H)
    have hji4_ : (if (ziae.size : Int) < a1 then (ziae.size : Int) else a1) = ji4 := hji4
    by_cases c5 : 0 ≤ (ji4)
    ·rw [if_pos c5] at H
     have c5b0 := eq_true c5
     have c5b1 : decide (0 ≤ (ji4)) = true := decide_eq_true c5
     clear c5
     by_cases c6 : (ji4) ≤ (ziae.size : Int)
     ·rw [if_pos c6] at H
      have c6b0 := eq_true c6
      have c6b1 : decide ((ji4) ≤ (ziae.size : Int)) = true := decide_eq_true c6
      clear c6
      by_cases c7 : ziah.length < 8796093022208
      ·rw [if_pos c7] at H
       have LMc7 := ziad c7
       clear c7
       obtain ⟨y259, hy259⟩ : ∃ y_ : List ByteArray, y_ = (ziah ++ [ziae.extract 0 ((ji4) : Int).toNat]) := ⟨_, rfl⟩
       replace H : (extent_pieces.l0 k1 (ziae.extract ((ji4) : Int).toNat ziae.size) a1 y259) = some r := by first | (rw [hy259]; with_reducible exact H) | (have H2_ := (Option.bind_some _ _).symm.trans H; rw [hy259]; with_reducible exact H2_) | (have H2_ := (Option.bind_some _ _).symm.trans H; with_reducible exact H2_) | with_reducible exact H | (rw [hy259]; exact H) | exact H
       have Ny259 := ziad hy259
       clear hy259
       have c8b0 := eq_true (of_decide_eq_true (by first | (with_reducible assumption) | assumption) : 0 ≤ (ji4))
       have c9b0 := eq_true (of_decide_eq_true (by first | (with_reducible assumption) | assumption) : (ji4) ≤ (ziae.size : Int))
       have H' := ziad H
       clear H
       go_wp2_with (first | ((with_reducible refine gate_builtin (b := .append) (xs := #[.tmp 14, .tmp 18]) rfl ?_); at_builtin; refine Kd.R_append Kd.string (w0 := w) w.heap.size rfl (.tmp 14) (.tmp 18) 22 9 (.string ⟨#[]⟩) 16 rfl Tryz.underlying22 info9 rfl (by decide) (by omega) u5 ziah (ziae.extract 0 ((ji4) : Int).toNat) [.string (ziae.extract 0 ((ji4) : Int).toNat)] (fun _ => True) (fun _ => False) rfl rfl ?aP (fun _ hk => hk.elim) ?aF ?aO ?aB ?aS ?aL ?_; (case aP => exact rfl); (case aB => exact (by repeat (first | (with_reducible first | exact HB.out | apply ziac | apply ziaa | apply ziab) | exact HB.out))); (case aF => exact (fun _ _ => trivial)); (case aO => exact (by (with_reducible repeat (first | apply Kd.R_alloc | apply Kd.R_drewN | apply Kd.R_drew)); exact HO_5.out)); (case aS => exact (below_size (by repeat (first | (with_reducible first | exact HB.out | apply ziac | apply ziaa | apply ziab) | exact HB.out)))); (case aL => have := LMc7.out; omega); intro v260 w10 ho hb hg hat; rw [← Ny259.out] at ho; have n0_ := ziad (hb); have n1_ := ziad (ho); clear HB; clear HO_5; have HB := n0_; have HO261 := n1_; clear n0_ n1_; clear ho hb hg hat))
       go_roundg k1
       case measure => have := HK1.out; omega
       case rel => exact ⟨(ziae.extract ((ji4) : Int).toNat ziae.size), (y259), (by first | rfl | (simp; done) | (simp only [← hji4] <;> (first | rfl | simp)) | (simp [*]; done)), H', ⟨by have := HK1.out; omega⟩, ⟨by (with_reducible repeat (first | apply Kd.R_alloc | apply Kd.R_drewN | apply Kd.R_drew)); exact HO261.out⟩, ⟨by repeat (first | (with_reducible first | exact HB.out | apply ziac | apply ziaa | apply ziab) | exact HB.out)⟩⟩
      ·rw [if_neg c7] at H
       exact absurd H (by simp)
     ·rw [if_neg c6] at H
      exact absurd H (by simp)
    ·rw [if_neg c5] at H
     exact absurd H (by simp)
   ·rw [if_neg c3] at H
    have c3b0 : decide (0 < (ziae.size : Int)) = false := decide_eq_false c3
    have c3b1 : decide (0 < ziae.size) = false := decide_eq_false (by omega)
    clear c3
    obtain rfl := Option.some.inj H
    go_wp2
    go_ret
    exact ⟨_, by first | rfl | (simp [errW_none, errW_some] <;> rfl) | (simp [*, errW_none, errW_some] <;> rfl), by (with_reducible repeat (first | apply Kd.R_alloc | apply Kd.R_drewN | apply Kd.R_drew)); exact HO_5.out, by repeat (first | (with_reducible first | exact HB.out | apply ziac | apply ziaa | apply ziab) | exact HB.out)⟩
/-! ### extent_laid: function 39 -/
def extent_laid.l0 : Nat → ByteArray → List ByteArray → Int → Int → Option (ByteArray)
 | 0, _, _, _, _ => none
 | k + 1, x3, x9, x10, x11 => if x11 < x10 then (if 0 ≤ x11 then (if x11 < (x9.length : Int) then ((frame_Frame.f k (rdOf ByteArray.empty x9 x11)).bind fun bt276 => (if x3.size + bt276.1.size ≤ 9223372036854775807 then (extent_laid.l0 k (x3 ++ bt276.1) x9 x10 (wrap64 (x11 + 1))) else (none))) else (none)) else (none)) else (some x3)
def extent_laid.f (k : Nat) (a0 : ByteArray) : Option (ByteArray) := (extent_pieces.f k a0 512).bind fun t272 => (extent_laid.l0 k (⟨#[]⟩ : ByteArray) t272 (t272.length : Int) 0)
theorem extent_laid.mono_l : ∀ k, (∀ y0 y1 y2 y3, LeO (extent_laid.l0 k y0 y1 y2 y3) (extent_laid.l0 (k + 1) y0 y1 y2 y3))
 | 0 => fun _ _ _ _ r h => by simp [extent_laid.l0] at h
 | k + 1 => by
  have ih0 := extent_laid.mono_l k
  ·intro y0 y1 y2 y3
   unfold extent_laid.l0
   repeat' first
   | (with_reducible exact ih0 _ _ _ _)
   | (with_reducible exact extent_pieces.mono _ _ _)
   | (with_reducible exact frame_Frame.mono _ _)
   | (with_reducible exact LeO.refl _)
   | (with_reducible exact LeO.none _)
   | (with_reducible refine LeO.ite ?_ ?_)
   | (with_reducible refine LeO.bind ?_ (fun _ => ?_))
   | exact ih0 _ _ _ _
   | exact extent_pieces.mono _ _ _
   | exact frame_Frame.mono _ _
   | exact LeO.none _
   | refine LeO.ite ?_ ?_
   | refine LeO.bind ?_ (fun _ => ?_)
theorem extent_laid.mono : ∀ a0 k, LeO (extent_laid.f k a0) (extent_laid.f (k + 1) a0) := by
 intro a0 k
 have ih0 := extent_laid.mono_l k
 unfold extent_laid.f
 repeat' first
   | (with_reducible exact ih0 _ _ _ _)
   | (with_reducible exact extent_pieces.mono _ _ _)
   | (with_reducible exact frame_Frame.mono _ _)
   | (with_reducible exact LeO.refl _)
   | (with_reducible exact LeO.none _)
   | (with_reducible refine LeO.ite ?_ ?_)
   | (with_reducible refine LeO.bind ?_ (fun _ => ?_))
   | exact ih0 _ _ _ _
   | exact extent_pieces.mono _ _ _
   | exact frame_Frame.mono _ _
   | exact LeO.none _
   | refine LeO.ite ?_ ?_
   | refine LeO.bind ?_ (fun _ => ?_)
set_option maxHeartbeats 8000000 in
set_option maxRecDepth 100000 in
theorem extent_laid.calls (k : Nat) (a0 : ByteArray) (r : ByteArray) (w : World) (h : extent_laid.f k a0 = some r) :
  Calls Tryz.prog 39 #[.string a0] w fun e w' => e = .returned (.string r) ∧ Below w.heap.size w w' := by
 have HB := ziad (Below.refl w.heap.size w)
 have H : ((extent_pieces.f k a0 512).bind fun t272 => (extent_laid.l0 k (⟨#[]⟩ : ByteArray) t272 (t272.length : Int) 0)) = some r := h
 clear h
 replace H := Option.bind_eq_some_iff.mp H
 obtain ⟨t272, A20, H⟩ := H
 replace H : (extent_laid.l0 k (⟨#[]⟩ : ByteArray) t272 (t272.length : Int) 0) = some r := H
 have A2 := ziad A20
 clear A20
 have H' := ziad H
 clear H
 go_enter Tryz.func39, Tryz.ntmps39
 go_wp2_with (first | ((with_reducible refine gate_callee (f := 42) rfl ?_); refine goesL_ (some 9) rfl rfl Tryz.func42 (by kernel_rfl) rfl #[.string a0, .int .i64 512] rfl (by (try simp only [List.map_toArray, List.map_cons, List.map_nil]); first | done | rfl) ?_; (with_reducible refine (extent_pieces.calls k a0 512 t272 _ A2.out).mono ?_); rintro e w3 ⟨v273, rfl, ho0, hb⟩; refine ⟨_, rfl, ?_⟩; have n0_ := ziad (Kd.R_lower ho0 (below_size (by repeat (first | (with_reducible first | exact HB.out | apply ziac | apply ziaa | apply ziab) | exact HB.out)))); have n1_ := ziad (below_step (by repeat (first | (with_reducible first | exact HB.out | apply ziac | apply ziaa | apply ziab) | exact HB.out)) hb); clear HB; have HO274 := n0_; have HB := n1_; clear n0_ n1_; (try clear hb); (try clear hk); (try clear hi); (try clear ho0); obtain ⟨Ao4, co4, eo4⟩ := Kd.R_slice HO274.out; subst eo4))
 go_loopg [3, 11] k (fun kq v3 v11 w' => ∃ (ziag : ByteArray) (ziaf : Int), v3 = .string ziag ∧ v11 = .int .i64 ziaf ∧ Aside0 (extent_laid.l0 kq ziag t272 (t272.length : Int) ziaf = some r) ∧ Aside0 (kq ≤ k) ∧ Aside0 (Kd.R Kd.string 9 w' w.heap.size (fun _ => True) (.slice Ao4 t272.length co4) t272) ∧ Aside0 (Below w.heap.size w w'))
 case atStart => exact ⟨((⟨#[]⟩ : ByteArray)), (0), (by first | rfl | (simp; done) | (simp [*]; done)), (by first | rfl | (simp; done) | (simp [*]; done)), H', ⟨Nat.le_refl _⟩, ⟨by (with_reducible repeat (first | apply Kd.R_alloc | apply Kd.R_drewN | apply Kd.R_drew)); exact HO274.out⟩, ⟨by repeat (first | (with_reducible first | exact HB.out | apply ziac | apply ziaa | apply ziab) | exact HB.out)⟩⟩
 case round =>
  clear H'
  try clear p2
  try clear c3
  try clear c4
  obtain ⟨ziag, ziaf, rfl, rfl, HA, HK1, HO_9, HB⟩ := hrel
  cases gk with
  | zero => exact absurd HA.out (by simp [extent_laid.l0])
  | succ k1 =>
   have H := HA.out
   clear HA
   simp only [extent_laid.l0] at H
   by_cases c5 : ziaf < (t272.length : Int)
   ·rw [if_pos c5] at H
    have c5b0 : decide (ziaf < (t272.length : Int)) = true := decide_eq_true c5
    clear c5
    by_cases c6 : 0 ≤ ziaf
    ·rw [if_pos c6] at H
     have c6b0 : decide (0 ≤ ziaf) = true := decide_eq_true c6
     clear c6
     by_cases c7 : ziaf < (t272.length : Int)
     ·rw [if_pos c7] at H
      have c7b0 : decide (ziaf < (t272.length : Int)) = true := decide_eq_true c7
      clear c7
      replace H := Option.bind_eq_some_iff.mp H
      obtain ⟨⟨t276, t277⟩, A80, H⟩ := H
      replace H : (if ziag.size + t276.size ≤ 9223372036854775807 then (extent_laid.l0 k1 (ziag ++ t276) t272 (t272.length : Int) (wrap64 (ziaf + 1))) else (none)) = some r := H
      have A8 := ziad A80
      clear A80
      by_cases c9 : ziag.size + t276.size ≤ 9223372036854775807
      ·rw [if_pos c9] at H
       have c9b0 := eq_true c9
       have c9b1 : decide (ziag.size + t276.size ≤ 9223372036854775807) = true := decide_eq_true c9
       try have c9b2 : (9223372036854775807 < ziag.size + t276.size) = False := eq_false (Nat.not_lt.2 c9)
       have H' := ziad H
       clear H
       have p275 : 0 ≤ (ziaf : Int) := of_decide_eq_true (by first | (with_reducible assumption) | assumption)
       have q275 : ziaf < (t272.length : Int) := of_decide_eq_true (by first | (with_reducible assumption) | assumption)
       obtain ⟨ad275, e275, hx275_0⟩ := Kd.at_string (Kd.R_reads' HO_9.out).2.2 ziaf p275 q275
       cases e275
       replace p275 := eq_true p275
       replace q275 := eq_true q275
       go_wp2_with (first | ((with_reducible refine gate_callee (f := 66) rfl ?_); refine goesL_ (some 17) rfl rfl Tryz.func66 (by kernel_rfl) rfl #[.string (rdOf ByteArray.empty t272 ziaf)] rfl (by (try simp only [List.map_toArray, List.map_cons, List.map_nil]); first | done | rfl) ?_; (with_reducible refine (frame_Frame.calls k1 (rdOf ByteArray.empty t272 ziaf) t276 t277 _ A8.out).mono ?_); rintro e w10 ⟨rfl, hb⟩; refine ⟨_, rfl, ?_⟩; have n0_ := ziad (Kd.R_below (by (with_reducible repeat (first | apply Kd.R_alloc | apply Kd.R_drewN | apply Kd.R_drew)); exact HO_9.out) hb); have n1_ := ziad (below_step (by repeat (first | (with_reducible first | exact HB.out | apply ziac | apply ziaa | apply ziab) | exact HB.out)) hb); clear HO_9; clear HB; have HO_9 := n0_; have HB := n1_; clear n0_ n1_; (try clear hb); (try clear hk); (try clear hi)))
       go_roundg k1
       case measure => have := HK1.out; omega
       case rel => exact ⟨(ziag ++ t276), (wrap64 (ziaf + 1)), (by first | rfl | (simp; done) | (simp [*]; done)), (by first | rfl | (simp; done) | (simp [*]; done)), H', ⟨by have := HK1.out; omega⟩, ⟨by (with_reducible repeat (first | apply Kd.R_alloc | apply Kd.R_drewN | apply Kd.R_drew)); exact HO_9.out⟩, ⟨by repeat (first | (with_reducible first | exact HB.out | apply ziac | apply ziaa | apply ziab) | exact HB.out)⟩⟩
      ·rw [if_neg c9] at H
       exact absurd H (by simp)
     ·rw [if_neg c7] at H
      exact absurd H (by simp)
    ·rw [if_neg c6] at H
     exact absurd H (by simp)
   ·rw [if_neg c5] at H
    have c5b0 : decide (ziaf < (t272.length : Int)) = false := decide_eq_false c5
    clear c5
    obtain rfl := Option.some.inj H
    go_wp2
    go_ret
    exact ⟨by first | rfl | (simp [errW_none, errW_some] <;> rfl) | (simp [*, errW_none, errW_some] <;> rfl), by repeat (first | (with_reducible first | exact HB.out | apply ziac | apply ziaa | apply ziab) | exact HB.out)⟩

-- NOT PRINTED: function 16 (extent_read)

-- NOT PRINTED: function 84 (api_Fall_84)

-- NOT PRINTED: function 85 (api_Fall_85)

-- NOT PRINTED: function 88 (maps_clone)

-- NOT PRINTED: function 68 (maps_Clone_map_string_string_string_string)

-- NOT PRINTED: function 87 (disk_do)

-- NOT PRINTED: function 86 (disk_Disk_Fail)

-- NOT PRINTED: function 67 (disk_Disk_change)

-- NOT PRINTED: function 40 (disk_Disk_Remove)

-- NOT PRINTED: function 41 (disk_Disk_Sync)

-- NOT PRINTED: function 17 (extent_Store_remove)

-- NOT PRINTED: function 4 (extent_Open)

-- NOT PRINTED: function 5 (disk_New)
/-! ### extent_Cut: function 18 -/
def extent_Cut.f (k : Nat) (a0 : ByteArray) : Option (List ByteArray) := (extent_pieces.f k a0 4096).bind fun t282 => (some t282)
theorem extent_Cut.mono : ∀ a0 k, LeO (extent_Cut.f k a0) (extent_Cut.f (k + 1) a0) := by
 intro a0 k
 unfold extent_Cut.f
 repeat' first
   | (with_reducible exact extent_pieces.mono _ _ _)
   | (with_reducible exact LeO.refl _)
   | (with_reducible exact LeO.none _)
   | (with_reducible refine LeO.ite ?_ ?_)
   | (with_reducible refine LeO.bind ?_ (fun _ => ?_))
   | exact extent_pieces.mono _ _ _
   | exact LeO.none _
   | refine LeO.ite ?_ ?_
   | refine LeO.bind ?_ (fun _ => ?_)
set_option maxHeartbeats 8000000 in
set_option maxRecDepth 100000 in
theorem extent_Cut.calls (k : Nat) (a0 : ByteArray) (r : List ByteArray) (w : World) (h : extent_Cut.f k a0 = some r) :
  Calls Tryz.prog 18 #[.string a0] w fun e w' => ∃ v0_ : Value, e = .returned (v0_) ∧ Kd.R Kd.string 9 w' w.heap.size (fun _ => True) v0_ r ∧ Below w.heap.size w w' := by
 have HB := ziad (Below.refl w.heap.size w)
 have H : ((extent_pieces.f k a0 4096).bind fun t282 => (some t282)) = some r := h
 clear h
 replace H := Option.bind_eq_some_iff.mp H
 obtain ⟨t282, A20, H⟩ := H
 replace H : (some t282) = some r := H
 have A2 := ziad A20
 clear A20
 obtain rfl := Option.some.inj H
 go_enter Tryz.func18, Tryz.ntmps18
 go_wp2_with (first | ((with_reducible refine gate_callee (f := 42) rfl ?_); refine goesL_ (some 4) rfl rfl Tryz.func42 (by kernel_rfl) rfl #[.string a0, .int .i64 4096] rfl (by (try simp only [List.map_toArray, List.map_cons, List.map_nil]); first | done | rfl) ?_; (with_reducible refine (extent_pieces.calls k a0 4096 t282 _ A2.out).mono ?_); rintro e w3 ⟨v283, rfl, ho0, hb⟩; refine ⟨_, rfl, ?_⟩; have n0_ := ziad (Kd.R_lower ho0 (below_size (by repeat (first | (with_reducible first | exact HB.out | apply ziac | apply ziaa | apply ziab) | exact HB.out)))); have n1_ := ziad (below_step (by repeat (first | (with_reducible first | exact HB.out | apply ziac | apply ziaa | apply ziab) | exact HB.out)) hb); clear HB; have HO284 := n0_; have HB := n1_; clear n0_ n1_; (try clear hb); (try clear hk); (try clear hi); (try clear ho0)))
 go_ret
 exact ⟨_, by first | rfl | (simp [errW_none, errW_some] <;> rfl) | (simp [*, errW_none, errW_some] <;> rfl), by (with_reducible repeat (first | apply Kd.R_alloc | apply Kd.R_drewN | apply Kd.R_drew)); exact HO284.out, by repeat (first | (with_reducible first | exact HB.out | apply ziac | apply ziaa | apply ziab) | exact HB.out)⟩

-- NOT PRINTED: function 29 (extent_Store_Get)

-- NOT PRINTED: function 43 (extent_Store_Has)

-- NOT PRINTED: function 19 (extent_Store_Put)

-- NOT PRINTED: function 6 (stowagetop_kept)
end Go.Proofs.YtpgbkeaaklglkaaGreatDoor.Q