

/- Written by a program of this session (wip/patch_print.py over the kit's print): functions of the given program as plain Lean functions, and that each call does what its function says, under no further conditions. -/
import Derived.Test.YtmpnaaegahjfkaaQx0
import Derived.Test.YtmpnaaegahjfkaaQx21
namespace Go.Proofs.Ytmpnaaegahjfkaa.Q
open Go.RowKit Go.Proofs.YtmpnaaegahjfkaaW.PrintWords Go.Proofs.YtmpnaaegahjfkaaW.PrintLast Go.Proofs.YtmpnaaegahjfkaaW.PrintMore
attribute [local go_sem] max2_int min2_int max_two min_two max_three min_three max_four min_four   -- for this text's walks alone
set_option linter.unusedVariables false
set_option linter.unusedSimpArgs false
attribute [local go_sem] xor_ones_u8 xor_ones_u16 xor_ones_u32 xor_ones_u64 cell_twice frozen_twice
abbrev zawaa := @below_set
abbrev zawab := @pw_below_drewN
abbrev zawac := @below_drew1
abbrev zawad := @below_alloc
abbrev zawae := @blk_frozen
abbrev zawaf := @List.map_toArray
abbrev zawag := @List.map_cons
abbrev zawah := @List.map_nil
abbrev zawai := @Aside0.mk
abbrev zawak := @IsS107.alloc
abbrev zawal := @IsS107.drew
abbrev zawam := @IsS107.drewN
abbrev zawan := @IsS107.ge
abbrev zawao := @IsS107.set_0
abbrev zawap := @IsS107.set_1
abbrev zawaq := @IsS107.set_2
/-! ### octet_Reader_Number: function 63 -/
def octet_Reader_Number.j0 : Nat → Int → Int → Int → Bool → ByteArray → Int → Int → Option (Int × ByteArray × Int × Int)
 | 0, _, _, _, _, _, _, _ => none
 | k + 1, x5, x6, x7, x30, x1000, x1001, x1002 => if x30 = true then (some (0, x1000, x1001, 2)) else (if x7 = 0 then (some (x5, x1000, x6, x1002)) else (some (0, x1000, x1001, x7)))
def octet_Reader_Number.f (k : Nat) (s0_0 : ByteArray) (s0_1 : Int) (s0_2 : Int) (a1 : Int) : Option (Int × ByteArray × Int × Int) := (octet_Reader_Err.f s0_0 s0_1 s0_2).bind fun bt464 => (if bt464.1 = 0 then ((octet_ReadNumber.f k bt464.2.1 bt464.2.2.1).bind fun bt468 => (if bt468.2.2 = 0 then (octet_Reader_Number.j0 k bt468.1 bt468.2.1 bt468.2.2 (decide (bt468.1 > a1)) bt464.2.1 bt464.2.2.1 bt464.2.2.2) else (octet_Reader_Number.j0 k bt468.1 bt468.2.1 bt468.2.2 false bt464.2.1 bt464.2.2.1 bt464.2.2.2))) else (some (0, bt464.2.1, bt464.2.2.1, bt464.2.2.2)))
set_option maxHeartbeats 8000000 in
set_option maxRecDepth 100000 in
theorem octet_Reader_Number.calls (k : Nat) (g : Nat) (s0_0 : ByteArray) (s0_1 : Int) (s0_2 : Int) (a1 : Int) (r1 : Int) (r2 : ByteArray) (r3 : Int) (r4 : Int) (w0 w : World) (hI : IsS107 w0 w g s0_0 s0_1 s0_2) (hB : Below w0.heap.size w0 w) (h : octet_Reader_Number.f k s0_0 s0_1 s0_2 a1 = some (r1, r2, r3, r4)) :
  Calls Try.prog 63 #[.pointer (some ⟨g, 0, none⟩), .int .u64 a1] w fun e w' => e = .returned (.int .u64 r1) ∧ IsS107 w0 w' g r2 r3 r4 ∧ Below w0.heap.size w0 w' ∧ KeepBut w w' g none := by
 have HI0 := zawai hI
 have HK := zawai (KeepBut.refl w g none)
 have HL := zawai hB.size
 clear hI
 have HW0 := zawai hB.size
 have HB := zawai hB
 clear hB
 have H : ((octet_Reader_Err.f s0_0 s0_1 s0_2).bind fun bt464 => (if bt464.1 = 0 then ((octet_ReadNumber.f k bt464.2.1 bt464.2.2.1).bind fun bt468 => (if bt468.2.2 = 0 then (octet_Reader_Number.j0 k bt468.1 bt468.2.1 bt468.2.2 (decide (bt468.1 > a1)) bt464.2.1 bt464.2.2.1 bt464.2.2.2) else (octet_Reader_Number.j0 k bt468.1 bt468.2.1 bt468.2.2 false bt464.2.1 bt464.2.2.1 bt464.2.2.2))) else (some (0, bt464.2.1, bt464.2.2.1, bt464.2.2.2)))) = some (r1, r2, r3, r4) := h
 clear h
 replace H := Option.bind_eq_some_iff.mp H
 obtain ⟨⟨t464, t465, t466, t467⟩, A30, H⟩ := H
 replace H : (if t464 = 0 then ((octet_ReadNumber.f k t465 t466).bind fun bt468 => (if bt468.2.2 = 0 then (octet_Reader_Number.j0 k bt468.1 bt468.2.1 bt468.2.2 (decide (bt468.1 > a1)) t465 t466 t467) else (octet_Reader_Number.j0 k bt468.1 bt468.2.1 bt468.2.2 false t465 t466 t467))) else (some (0, t465, t466, t467))) = some (r1, r2, r3, r4) := H
 have A3 := zawai A30
 clear A30
 by_cases c4 : t464 = 0
 ·rw [if_pos c4] at H
  have c4b0 : (t464 == 0) = true := beq_iff_eq.mpr c4
  have c4b1 : (t464 != 0) = false := bne_eq_false_iff_eq.mpr c4
  clear c4
  replace H := Option.bind_eq_some_iff.mp H
  obtain ⟨⟨t468, t469, t470⟩, A50, H⟩ := H
  replace H : (if t470 = 0 then (octet_Reader_Number.j0 k t468 t469 t470 (decide (t468 > a1)) t465 t466 t467) else (octet_Reader_Number.j0 k t468 t469 t470 false t465 t466 t467)) = some (r1, r2, r3, r4) := H
  have A5 := zawai A50
  clear A50
  have HC6 := zawai H
  clear H
  go_enter Try.func63, Try.ntmps63
  go_upto_region 4 with (first | (go_at_call 61; (with_reducible refine (octet_Reader_Err.calls g s0_0 s0_1 s0_2 t464 t465 t466 t467 w0 _ ?side1 ?side2 A3.out).mono ?_); (case side1 => repeat (first | (with_reducible first | exact HI0.out | apply zawak | apply zawam | apply zawal | apply zawao | apply zawap | apply zawaq) | exact HI0.out)); (case side2 => repeat (first | (with_reducible first | exact HB.out | apply zawad | apply zawab | apply zawac | refine zawaa ?_ (zawan HI0.out)) | exact HB.out)); rintro e w7 ⟨rfl, hi, hb, hk⟩; have n0_ := zawai (KeepBut.trans (zh5 HK) hk (.inl rfl)); have n1_ := zawai (hb); have n2_ := zawai (hi); clear HK; clear HB; clear HI0; have HK := n0_; have HB := n1_; have HI0 := n2_; clear n0_ n1_ n2_; (try clear hb); (try clear hk); (try clear hi); obtain ⟨HGz8, hgz8⟩ := HI0.out; have zawar := cellS107_0 HGz8; have zawas := cellS107_1 HGz8; have zawat := cellS107_2 HGz8; have zawau := zawae HGz8 0; have zawav := zawae HGz8 1; have zawaw := zawae HGz8 2; clear HGz8 hgz8) | (go_at_call 62; (with_reducible refine (octet_ReadNumber.calls k t465 t466 t468 t469 t470 _ A5.out).mono ?_); rintro e w' ⟨rfl, ⟨nd, rfl⟩⟩; (try first | exact ⟨rfl, _, World.drewN_drewN _ _ _⟩ | exact ⟨rfl, _, Eq.trans (World.drewN_drewN _ _ _) (congrArg (World.drewN _) (Nat.add_assoc _ _ _))⟩)))
  repeat (go_quiet (first | (go_at_call 61; (with_reducible refine (octet_Reader_Err.calls g s0_0 s0_1 s0_2 t464 t465 t466 t467 w0 _ ?side1 ?side2 A3.out).mono ?_); (case side1 => repeat (first | (with_reducible first | exact HI0.out | apply zawak | apply zawam | apply zawal | apply zawao | apply zawap | apply zawaq) | exact HI0.out)); (case side2 => repeat (first | (with_reducible first | exact HB.out | apply zawad | apply zawab | apply zawac | refine zawaa ?_ (zawan HI0.out)) | exact HB.out)); rintro e w7 ⟨rfl, hi, hb, hk⟩; have n0_ := zawai (KeepBut.trans (zh5 HK) hk (.inl rfl)); have n1_ := zawai (hb); have n2_ := zawai (hi); clear HK; clear HB; clear HI0; have HK := n0_; have HB := n1_; have HI0 := n2_; clear n0_ n1_ n2_; (try clear hb); (try clear hk); (try clear hi); obtain ⟨HGz8, hgz8⟩ := HI0.out; have zawar := cellS107_0 HGz8; have zawas := cellS107_1 HGz8; have zawat := cellS107_2 HGz8; have zawau := zawae HGz8 0; have zawav := zawae HGz8 1; have zawaw := zawae HGz8 2; clear HGz8 hgz8) | (go_at_call 62; (with_reducible refine (octet_ReadNumber.calls k t465 t466 t468 t469 t470 _ A5.out).mono ?_); rintro e w' ⟨rfl, ⟨nd, rfl⟩⟩; (try first | exact ⟨rfl, _, World.drewN_drewN _ _ _⟩ | exact ⟨rfl, _, Eq.trans (World.drewN_drewN _ _ _) (congrArg (World.drewN _) (Nat.add_assoc _ _ _))⟩))); go_upto_region 4 with (first | (go_at_call 61; (with_reducible refine (octet_Reader_Err.calls g s0_0 s0_1 s0_2 t464 t465 t466 t467 w0 _ ?side1 ?side2 A3.out).mono ?_); (case side1 => repeat (first | (with_reducible first | exact HI0.out | apply zawak | apply zawam | apply zawal | apply zawao | apply zawap | apply zawaq) | exact HI0.out)); (case side2 => repeat (first | (with_reducible first | exact HB.out | apply zawad | apply zawab | apply zawac | refine zawaa ?_ (zawan HI0.out)) | exact HB.out)); rintro e w7 ⟨rfl, hi, hb, hk⟩; have n0_ := zawai (KeepBut.trans (zh5 HK) hk (.inl rfl)); have n1_ := zawai (hb); have n2_ := zawai (hi); clear HK; clear HB; clear HI0; have HK := n0_; have HB := n1_; have HI0 := n2_; clear n0_ n1_ n2_; (try clear hb); (try clear hk); (try clear hi); obtain ⟨HGz8, hgz8⟩ := HI0.out; have zawar := cellS107_0 HGz8; have zawas := cellS107_1 HGz8; have zawat := cellS107_2 HGz8; have zawau := zawae HGz8 0; have zawav := zawae HGz8 1; have zawaw := zawae HGz8 2; clear HGz8 hgz8) | (go_at_call 62; (with_reducible refine (octet_ReadNumber.calls k t465 t466 t468 t469 t470 _ A5.out).mono ?_); rintro e w' ⟨rfl, ⟨nd, rfl⟩⟩; (try first | exact ⟨rfl, _, World.drewN_drewN _ _ _⟩ | exact ⟨rfl, _, Eq.trans (World.drewN_drewN _ _ _) (congrArg (World.drewN _) (Nat.add_assoc _ _ _))⟩))))
  (try simp only [Act.put, List.setIfInBounds_toArray, List.set_cons_zero, List.set_cons_succ])
  go_cut [30] (fun v30 wc => ∃ (kq : Nat) (zawbd : Bool), v30 = .bool zawbd ∧ Aside0 (octet_Reader_Number.j0 kq t468 t469 t470 zawbd t465 t466 t467 = some (r1, r2, r3, r4)) ∧ Aside0 (kq ≤ k) ∧ Aside0 (IsS107 w0 wc g t465 t466 t467) ∧ Aside0 (KeepBut w wc g none) ∧ Aside0 (Below w0.heap.size w0 wc))
  case first =>
   have H := HC6.out
   clear HC6
   by_cases c9 : t470 = 0
   ·rw [if_pos c9] at H
    have c9b0 : (t470 == 0) = true := beq_iff_eq.mpr c9
    have c9b1 : (t470 != 0) = false := bne_eq_false_iff_eq.mpr c9
    clear c9
    (first | rw [c9b0] | (simp only [i64_w, i32_w]; rw [c9b0]) | skip)
    have H' := zawai H
    clear H
    go_wp2
    repeat (go_quiet (fail); try go_wp2)
    go_meet
    case rel => exact ⟨_, (decide (t468 > a1)), (by first | rfl | (simp; done) | (simp [*]; done)), H', ⟨by first | omega | exact Nat.le_refl _⟩, ⟨zh4 HI0⟩, ⟨zh5 HK⟩, ⟨zh1 HB ⟨zawan HI0.out⟩⟩⟩
   ·rw [if_neg c9] at H
    have c9b0 : (t470 == 0) = false := beq_eq_false_iff_ne.mpr c9
    have c9b1 : (t470 != 0) = true := bne_iff_ne.mpr c9
    (first | rw [c9b0] | (simp only [i64_w, i32_w]; rw [c9b0]) | skip)
    have H' := zawai H
    clear H
    go_wp2
    repeat (go_quiet (fail); try go_wp2)
    go_meet
    case rel => exact ⟨_, (false), (by first | rfl | (simp; done) | (simp [*]; done)), H', ⟨by first | omega | exact Nat.le_refl _⟩, ⟨zh4 HI0⟩, ⟨zh5 HK⟩, ⟨zh1 HB ⟨zawan HI0.out⟩⟩⟩
  case rest =>
   clear HC6
   try clear p2
   try clear c4
   try clear c4b0
   try clear c4b1
   try clear c6
   try clear c9
   try clear c9b0
   try clear c9b1
   try clear zawar
   try clear zawas
   try clear zawat
   try clear zawau
   try clear zawav
   try clear zawaw
   obtain ⟨kq, zawbd, rfl, HA, HJ5, HI0, HK, HB⟩ := hcut
   cases kq with
   | zero => exact absurd HA.out (by simp [octet_Reader_Number.j0])
   | succ kj5 =>
    have H := HA.out
    clear HA
    simp only [octet_Reader_Number.j0] at H
    by_cases c10 : zawbd = true
    ·subst c10
     have H1 : (some (0, t465, t466, 2)) = some (r1, r2, r3, r4) := by rw [if_pos rfl] at H; exact H
     clear H
     have H := H1
     clear H1
     simp only [Option.some.injEq, Prod.mk.injEq] at H
     obtain ⟨rfl, rfl, rfl, rfl⟩ := H
     obtain ⟨HGz11, hgz11⟩ := HI0.out
     have zawax := cellS107_0 HGz11
     have zaway := cellS107_1 HGz11
     have zawaz := cellS107_2 HGz11
     have zawba := zawae HGz11 0
     have zawbb := zawae HGz11 1
     have zawbc := zawae HGz11 2
     clear HGz11 hgz11
     go_wp2
     repeat (go_quiet (fail); try go_wp2)
     go_ret
     exact ⟨by first | rfl | (simp [errW_none, errW_some] <;> rfl) | (simp [*, errW_none, errW_some] <;> rfl), zh4 HI0, zh1 HB ⟨zawan HI0.out⟩, zh5 HK⟩
    ·replace c10 := Bool.eq_false_iff.mpr c10
     subst c10
     have H1 : (if t470 = 0 then (some (t468, t465, t469, t467)) else (some (0, t465, t466, t470))) = some (r1, r2, r3, r4) := by rw [if_neg (show ¬ (false = true) by decide)] at H; exact H
     clear H
     have H := H1
     clear H1
     by_cases c12 : t470 = 0
     ·rw [if_pos c12] at H
      have c12b0 : (t470 == 0) = true := beq_iff_eq.mpr c12
      have c12b1 : (t470 != 0) = false := bne_eq_false_iff_eq.mpr c12
      clear c12
      simp only [Option.some.injEq, Prod.mk.injEq] at H
      obtain ⟨rfl, rfl, rfl, rfl⟩ := H
      obtain ⟨HGz13, hgz13⟩ := HI0.out
      have zawbl := cellS107_0 HGz13
      have zawbm := cellS107_1 HGz13
      have zawbn := cellS107_2 HGz13
      have zawbo := zawae HGz13 0
      have zawbp := zawae HGz13 1
      have zawbq := zawae HGz13 2
      clear HGz13 hgz13
      go_wp2
      repeat (go_quiet (fail); try go_wp2)
      go_ret
      exact ⟨by first | rfl | (simp [errW_none, errW_some] <;> rfl) | (simp [*, errW_none, errW_some] <;> rfl), zh4 HI0, zh1 HB ⟨zawan HI0.out⟩, zh5 HK⟩
     ·rw [if_neg c12] at H
      have c12b0 : (t470 == 0) = false := beq_eq_false_iff_ne.mpr c12
      have c12b1 : (t470 != 0) = true := bne_iff_ne.mpr c12
      simp only [Option.some.injEq, Prod.mk.injEq] at H
      obtain ⟨rfl, rfl, rfl, rfl⟩ := H
      obtain ⟨HGz14, hgz14⟩ := HI0.out
      have zawbr := cellS107_0 HGz14
      have zawbs := cellS107_1 HGz14
      have zawbt := cellS107_2 HGz14
      have zawbu := zawae HGz14 0
      have zawbv := zawae HGz14 1
      have zawbw := zawae HGz14 2
      clear HGz14 hgz14
      go_wp2
      repeat (go_quiet (fail); try go_wp2)
      go_ret
      exact ⟨by first | rfl | (simp [errW_none, errW_some] <;> rfl) | (simp [*, errW_none, errW_some] <;> rfl), zh4 HI0, zh1 HB ⟨zawan HI0.out⟩, zh5 HK⟩
 ·rw [if_neg c4] at H
  have c4b0 : (t464 == 0) = false := beq_eq_false_iff_ne.mpr c4
  have c4b1 : (t464 != 0) = true := bne_iff_ne.mpr c4
  simp only [Option.some.injEq, Prod.mk.injEq] at H
  obtain ⟨rfl, rfl, rfl, rfl⟩ := H
  go_enter Try.func63, Try.ntmps63
  go_wp2_with (first | (go_at_call 61; (with_reducible refine (octet_Reader_Err.calls g s0_0 s0_1 s0_2 t464 t465 t466 t467 w0 _ ?side1 ?side2 A3.out).mono ?_); (case side1 => repeat (first | (with_reducible first | exact HI0.out | apply zawak | apply zawam | apply zawal | apply zawao | apply zawap | apply zawaq) | exact HI0.out)); (case side2 => repeat (first | (with_reducible first | exact HB.out | apply zawad | apply zawab | apply zawac | refine zawaa ?_ (zawan HI0.out)) | exact HB.out)); rintro e w15 ⟨rfl, hi, hb, hk⟩; have n0_ := zawai (KeepBut.trans (zh5 HK) hk (.inl rfl)); have n1_ := zawai (hb); have n2_ := zawai (hi); clear HK; clear HB; clear HI0; have HK := n0_; have HB := n1_; have HI0 := n2_; clear n0_ n1_ n2_; (try clear hb); (try clear hk); (try clear hi)))
  repeat (go_quiet (first | (go_at_call 61; (with_reducible refine (octet_Reader_Err.calls g s0_0 s0_1 s0_2 t464 t465 t466 t467 w0 _ ?side1 ?side2 A3.out).mono ?_); (case side1 => repeat (first | (with_reducible first | exact HI0.out | apply zawak | apply zawam | apply zawal | apply zawao | apply zawap | apply zawaq) | exact HI0.out)); (case side2 => repeat (first | (with_reducible first | exact HB.out | apply zawad | apply zawab | apply zawac | refine zawaa ?_ (zawan HI0.out)) | exact HB.out)); rintro e w15 ⟨rfl, hi, hb, hk⟩; have n0_ := zawai (KeepBut.trans (zh5 HK) hk (.inl rfl)); have n1_ := zawai (hb); have n2_ := zawai (hi); clear HK; clear HB; clear HI0; have HK := n0_; have HB := n1_; have HI0 := n2_; clear n0_ n1_ n2_; (try clear hb); (try clear hk); (try clear hi))); try go_wp2_with (first | (go_at_call 61; (with_reducible refine (octet_Reader_Err.calls g s0_0 s0_1 s0_2 t464 t465 t466 t467 w0 _ ?side1 ?side2 A3.out).mono ?_); (case side1 => repeat (first | (with_reducible first | exact HI0.out | apply zawak | apply zawam | apply zawal | apply zawao | apply zawap | apply zawaq) | exact HI0.out)); (case side2 => repeat (first | (with_reducible first | exact HB.out | apply zawad | apply zawab | apply zawac | refine zawaa ?_ (zawan HI0.out)) | exact HB.out)); rintro e w15 ⟨rfl, hi, hb, hk⟩; have n0_ := zawai (KeepBut.trans (zh5 HK) hk (.inl rfl)); have n1_ := zawai (hb); have n2_ := zawai (hi); clear HK; clear HB; clear HI0; have HK := n0_; have HB := n1_; have HI0 := n2_; clear n0_ n1_ n2_; (try clear hb); (try clear hk); (try clear hi))))
  go_ret
  exact ⟨by first | rfl | (simp [errW_none, errW_some] <;> rfl) | (simp [*, errW_none, errW_some] <;> rfl), zh4 HI0, zh1 HB ⟨zawan HI0.out⟩, zh5 HK⟩

/-! ### octet_Reader_Int: function 48 -/
def octet_Reader_Int.f (k : Nat) (s0_0 : ByteArray) (s0_1 : Int) (s0_2 : Int) (a1 : Int) : Option (Int × ByteArray × Int × Int) := if a1 < 0 then ((octet_Reader_Err.f s0_0 s0_1 s0_2).bind fun bt471 => (if bt471.1 = 0 then ((octet_ReadNumber.f k bt471.2.1 bt471.2.2.1).bind fun bt475 => (if bt475.2.2 = 0 then (some (0, bt471.2.1, bt471.2.2.1, 2)) else (some (0, bt471.2.1, bt471.2.2.1, bt475.2.2)))) else (some (0, bt471.2.1, bt471.2.2.1, bt471.2.2.2)))) else ((octet_Reader_Number.f k s0_0 s0_1 s0_2 (IntKind.u64.wrap (a1))).bind fun bt478 => (some (wrap64 (bt478.1), bt478.2.1, bt478.2.2.1, bt478.2.2.2)))
set_option maxHeartbeats 8000000 in
set_option maxRecDepth 100000 in
theorem octet_Reader_Int.calls (k : Nat) (g : Nat) (s0_0 : ByteArray) (s0_1 : Int) (s0_2 : Int) (a1 : Int) (r1 : Int) (r2 : ByteArray) (r3 : Int) (r4 : Int) (w0 w : World) (hI : IsS107 w0 w g s0_0 s0_1 s0_2) (hB : Below w0.heap.size w0 w) (h : octet_Reader_Int.f k s0_0 s0_1 s0_2 a1 = some (r1, r2, r3, r4)) :
  Calls Try.prog 48 #[.pointer (some ⟨g, 0, none⟩), .int .i64 a1] w fun e w' => e = .returned (.int .i64 r1) ∧ IsS107 w0 w' g r2 r3 r4 ∧ Below w0.heap.size w0 w' ∧ KeepBut w w' g none := by
 have HI0 := zawai hI
 have HK := zawai (KeepBut.refl w g none)
 have HL := zawai hB.size
 clear hI
 have HW0 := zawai hB.size
 have HB := zawai hB
 clear hB
 have H : (if a1 < 0 then ((octet_Reader_Err.f s0_0 s0_1 s0_2).bind fun bt471 => (if bt471.1 = 0 then ((octet_ReadNumber.f k bt471.2.1 bt471.2.2.1).bind fun bt475 => (if bt475.2.2 = 0 then (some (0, bt471.2.1, bt471.2.2.1, 2)) else (some (0, bt471.2.1, bt471.2.2.1, bt475.2.2)))) else (some (0, bt471.2.1, bt471.2.2.1, bt471.2.2.2)))) else ((octet_Reader_Number.f k s0_0 s0_1 s0_2 (IntKind.u64.wrap (a1))).bind fun bt478 => (some (wrap64 (bt478.1), bt478.2.1, bt478.2.2.1, bt478.2.2.2)))) = some (r1, r2, r3, r4) := h
 clear h
 by_cases c3 : a1 < 0
 ·rw [if_pos c3] at H
  have c3b0 : decide (a1 < 0) = true := decide_eq_true c3
  clear c3
  replace H := Option.bind_eq_some_iff.mp H
  obtain ⟨⟨t471, t472, t473, t474⟩, A40, H⟩ := H
  replace H : (if t471 = 0 then ((octet_ReadNumber.f k t472 t473).bind fun bt475 => (if bt475.2.2 = 0 then (some (0, t472, t473, 2)) else (some (0, t472, t473, bt475.2.2)))) else (some (0, t472, t473, t474))) = some (r1, r2, r3, r4) := H
  have A4 := zawai A40
  clear A40
  by_cases c5 : t471 = 0
  ·rw [if_pos c5] at H
   have c5b0 : (t471 == 0) = true := beq_iff_eq.mpr c5
   have c5b1 : (t471 != 0) = false := bne_eq_false_iff_eq.mpr c5
   clear c5
   replace H := Option.bind_eq_some_iff.mp H
   obtain ⟨⟨t475, t476, t477⟩, A60, H⟩ := H
   replace H : (if t477 = 0 then (some (0, t472, t473, 2)) else (some (0, t472, t473, t477))) = some (r1, r2, r3, r4) := H
   have A6 := zawai A60
   clear A60
   by_cases c7 : t477 = 0
   ·rw [if_pos c7] at H
    have c7b0 : (t477 == 0) = true := beq_iff_eq.mpr c7
    have c7b1 : (t477 != 0) = false := bne_eq_false_iff_eq.mpr c7
    clear c7
    simp only [Option.some.injEq, Prod.mk.injEq] at H
    obtain ⟨rfl, rfl, rfl, rfl⟩ := H
    go_enter Try.func48, Try.ntmps48
    go_wp2_with (first | (go_at_call 61; (with_reducible refine (octet_Reader_Err.calls g s0_0 s0_1 s0_2 t471 t472 t473 t474 w0 _ ?side1 ?side2 A4.out).mono ?_); (case side1 => repeat (first | (with_reducible first | exact HI0.out | apply zawak | apply zawam | apply zawal | apply zawao | apply zawap | apply zawaq) | exact HI0.out)); (case side2 => repeat (first | (with_reducible first | exact HB.out | apply zawad | apply zawab | apply zawac | refine zawaa ?_ (zawan HI0.out)) | exact HB.out)); rintro e w8 ⟨rfl, hi, hb, hk⟩; have n0_ := zawai (KeepBut.trans (zh5 HK) hk (.inl rfl)); have n1_ := zawai (hb); have n2_ := zawai (hi); clear HK; clear HB; clear HI0; have HK := n0_; have HB := n1_; have HI0 := n2_; clear n0_ n1_ n2_; (try clear hb); (try clear hk); (try clear hi); obtain ⟨HGz9, hgz9⟩ := HI0.out; have zawbf := cellS107_0 HGz9; have zawbg := cellS107_1 HGz9; have zawbh := cellS107_2 HGz9; have zawbi := zawae HGz9 0; have zawbj := zawae HGz9 1; have zawbk := zawae HGz9 2; clear HGz9 hgz9) | (go_at_call 62; (with_reducible refine (octet_ReadNumber.calls k t472 t473 t475 t476 t477 _ A6.out).mono ?_); rintro e w' ⟨rfl, ⟨nd, rfl⟩⟩; (try first | exact ⟨rfl, _, World.drewN_drewN _ _ _⟩ | exact ⟨rfl, _, Eq.trans (World.drewN_drewN _ _ _) (congrArg (World.drewN _) (Nat.add_assoc _ _ _))⟩)))
    repeat (go_quiet (first | (go_at_call 61; (with_reducible refine (octet_Reader_Err.calls g s0_0 s0_1 s0_2 t471 t472 t473 t474 w0 _ ?side1 ?side2 A4.out).mono ?_); (case side1 => repeat (first | (with_reducible first | exact HI0.out | apply zawak | apply zawam | apply zawal | apply zawao | apply zawap | apply zawaq) | exact HI0.out)); (case side2 => repeat (first | (with_reducible first | exact HB.out | apply zawad | apply zawab | apply zawac | refine zawaa ?_ (zawan HI0.out)) | exact HB.out)); rintro e w8 ⟨rfl, hi, hb, hk⟩; have n0_ := zawai (KeepBut.trans (zh5 HK) hk (.inl rfl)); have n1_ := zawai (hb); have n2_ := zawai (hi); clear HK; clear HB; clear HI0; have HK := n0_; have HB := n1_; have HI0 := n2_; clear n0_ n1_ n2_; (try clear hb); (try clear hk); (try clear hi); obtain ⟨HGz9, hgz9⟩ := HI0.out; have zawbf := cellS107_0 HGz9; have zawbg := cellS107_1 HGz9; have zawbh := cellS107_2 HGz9; have zawbi := zawae HGz9 0; have zawbj := zawae HGz9 1; have zawbk := zawae HGz9 2; clear HGz9 hgz9) | (go_at_call 62; (with_reducible refine (octet_ReadNumber.calls k t472 t473 t475 t476 t477 _ A6.out).mono ?_); rintro e w' ⟨rfl, ⟨nd, rfl⟩⟩; (try first | exact ⟨rfl, _, World.drewN_drewN _ _ _⟩ | exact ⟨rfl, _, Eq.trans (World.drewN_drewN _ _ _) (congrArg (World.drewN _) (Nat.add_assoc _ _ _))⟩))); try go_wp2_with (first | (go_at_call 61; (with_reducible refine (octet_Reader_Err.calls g s0_0 s0_1 s0_2 t471 t472 t473 t474 w0 _ ?side1 ?side2 A4.out).mono ?_); (case side1 => repeat (first | (with_reducible first | exact HI0.out | apply zawak | apply zawam | apply zawal | apply zawao | apply zawap | apply zawaq) | exact HI0.out)); (case side2 => repeat (first | (with_reducible first | exact HB.out | apply zawad | apply zawab | apply zawac | refine zawaa ?_ (zawan HI0.out)) | exact HB.out)); rintro e w8 ⟨rfl, hi, hb, hk⟩; have n0_ := zawai (KeepBut.trans (zh5 HK) hk (.inl rfl)); have n1_ := zawai (hb); have n2_ := zawai (hi); clear HK; clear HB; clear HI0; have HK := n0_; have HB := n1_; have HI0 := n2_; clear n0_ n1_ n2_; (try clear hb); (try clear hk); (try clear hi); obtain ⟨HGz9, hgz9⟩ := HI0.out; have zawbf := cellS107_0 HGz9; have zawbg := cellS107_1 HGz9; have zawbh := cellS107_2 HGz9; have zawbi := zawae HGz9 0; have zawbj := zawae HGz9 1; have zawbk := zawae HGz9 2; clear HGz9 hgz9) | (go_at_call 62; (with_reducible refine (octet_ReadNumber.calls k t472 t473 t475 t476 t477 _ A6.out).mono ?_); rintro e w' ⟨rfl, ⟨nd, rfl⟩⟩; (try first | exact ⟨rfl, _, World.drewN_drewN _ _ _⟩ | exact ⟨rfl, _, Eq.trans (World.drewN_drewN _ _ _) (congrArg (World.drewN _) (Nat.add_assoc _ _ _))⟩))))
    go_ret
    exact ⟨by first | rfl | (simp [errW_none, errW_some] <;> rfl) | (simp [*, errW_none, errW_some] <;> rfl), zh4 HI0, zh1 HB ⟨zawan HI0.out⟩, zh5 HK⟩
   ·rw [if_neg c7] at H
    have c7b0 : (t477 == 0) = false := beq_eq_false_iff_ne.mpr c7
    have c7b1 : (t477 != 0) = true := bne_iff_ne.mpr c7
    simp only [Option.some.injEq, Prod.mk.injEq] at H
    obtain ⟨rfl, rfl, rfl, rfl⟩ := H
    go_enter Try.func48, Try.ntmps48
    go_wp2_with (first | (go_at_call 61; (with_reducible refine (octet_Reader_Err.calls g s0_0 s0_1 s0_2 t471 t472 t473 t474 w0 _ ?side1 ?side2 A4.out).mono ?_); (case side1 => repeat (first | (with_reducible first | exact HI0.out | apply zawak | apply zawam | apply zawal | apply zawao | apply zawap | apply zawaq) | exact HI0.out)); (case side2 => repeat (first | (with_reducible first | exact HB.out | apply zawad | apply zawab | apply zawac | refine zawaa ?_ (zawan HI0.out)) | exact HB.out)); rintro e w10 ⟨rfl, hi, hb, hk⟩; have n0_ := zawai (KeepBut.trans (zh5 HK) hk (.inl rfl)); have n1_ := zawai (hb); have n2_ := zawai (hi); clear HK; clear HB; clear HI0; have HK := n0_; have HB := n1_; have HI0 := n2_; clear n0_ n1_ n2_; (try clear hb); (try clear hk); (try clear hi); obtain ⟨HGz11, hgz11⟩ := HI0.out; have zawax := cellS107_0 HGz11; have zaway := cellS107_1 HGz11; have zawaz := cellS107_2 HGz11; have zawba := zawae HGz11 0; have zawbb := zawae HGz11 1; have zawbc := zawae HGz11 2; clear HGz11 hgz11) | (go_at_call 62; (with_reducible refine (octet_ReadNumber.calls k t472 t473 t475 t476 t477 _ A6.out).mono ?_); rintro e w' ⟨rfl, ⟨nd, rfl⟩⟩; (try first | exact ⟨rfl, _, World.drewN_drewN _ _ _⟩ | exact ⟨rfl, _, Eq.trans (World.drewN_drewN _ _ _) (congrArg (World.drewN _) (Nat.add_assoc _ _ _))⟩)))
    repeat (go_quiet (first | (go_at_call 61; (with_reducible refine (octet_Reader_Err.calls g s0_0 s0_1 s0_2 t471 t472 t473 t474 w0 _ ?side1 ?side2 A4.out).mono ?_); (case side1 => repeat (first | (with_reducible first | exact HI0.out | apply zawak | apply zawam | apply zawal | apply zawao | apply zawap | apply zawaq) | exact HI0.out)); (case side2 => repeat (first | (with_reducible first | exact HB.out | apply zawad | apply zawab | apply zawac | refine zawaa ?_ (zawan HI0.out)) | exact HB.out)); rintro e w10 ⟨rfl, hi, hb, hk⟩; have n0_ := zawai (KeepBut.trans (zh5 HK) hk (.inl rfl)); have n1_ := zawai (hb); have n2_ := zawai (hi); clear HK; clear HB; clear HI0; have HK := n0_; have HB := n1_; have HI0 := n2_; clear n0_ n1_ n2_; (try clear hb); (try clear hk); (try clear hi); obtain ⟨HGz11, hgz11⟩ := HI0.out; have zawax := cellS107_0 HGz11; have zaway := cellS107_1 HGz11; have zawaz := cellS107_2 HGz11; have zawba := zawae HGz11 0; have zawbb := zawae HGz11 1; have zawbc := zawae HGz11 2; clear HGz11 hgz11) | (go_at_call 62; (with_reducible refine (octet_ReadNumber.calls k t472 t473 t475 t476 t477 _ A6.out).mono ?_); rintro e w' ⟨rfl, ⟨nd, rfl⟩⟩; (try first | exact ⟨rfl, _, World.drewN_drewN _ _ _⟩ | exact ⟨rfl, _, Eq.trans (World.drewN_drewN _ _ _) (congrArg (World.drewN _) (Nat.add_assoc _ _ _))⟩))); try go_wp2_with (first | (go_at_call 61; (with_reducible refine (octet_Reader_Err.calls g s0_0 s0_1 s0_2 t471 t472 t473 t474 w0 _ ?side1 ?side2 A4.out).mono ?_); (case side1 => repeat (first | (with_reducible first | exact HI0.out | apply zawak | apply zawam | apply zawal | apply zawao | apply zawap | apply zawaq) | exact HI0.out)); (case side2 => repeat (first | (with_reducible first | exact HB.out | apply zawad | apply zawab | apply zawac | refine zawaa ?_ (zawan HI0.out)) | exact HB.out)); rintro e w10 ⟨rfl, hi, hb, hk⟩; have n0_ := zawai (KeepBut.trans (zh5 HK) hk (.inl rfl)); have n1_ := zawai (hb); have n2_ := zawai (hi); clear HK; clear HB; clear HI0; have HK := n0_; have HB := n1_; have HI0 := n2_; clear n0_ n1_ n2_; (try clear hb); (try clear hk); (try clear hi); obtain ⟨HGz11, hgz11⟩ := HI0.out; have zawax := cellS107_0 HGz11; have zaway := cellS107_1 HGz11; have zawaz := cellS107_2 HGz11; have zawba := zawae HGz11 0; have zawbb := zawae HGz11 1; have zawbc := zawae HGz11 2; clear HGz11 hgz11) | (go_at_call 62; (with_reducible refine (octet_ReadNumber.calls k t472 t473 t475 t476 t477 _ A6.out).mono ?_); rintro e w' ⟨rfl, ⟨nd, rfl⟩⟩; (try first | exact ⟨rfl, _, World.drewN_drewN _ _ _⟩ | exact ⟨rfl, _, Eq.trans (World.drewN_drewN _ _ _) (congrArg (World.drewN _) (Nat.add_assoc _ _ _))⟩))))
    go_ret
    exact ⟨by first | rfl | (simp [errW_none, errW_some] <;> rfl) | (simp [*, errW_none, errW_some] <;> rfl), zh4 HI0, zh1 HB ⟨zawan HI0.out⟩, zh5 HK⟩
  ·rw [if_neg c5] at H
   have c5b0 : (t471 == 0) = false := beq_eq_false_iff_ne.mpr c5
   have c5b1 : (t471 != 0) = true := bne_iff_ne.mpr c5
   simp only [Option.some.injEq, Prod.mk.injEq] at H
   obtain ⟨rfl, rfl, rfl, rfl⟩ := H
   go_enter Try.func48, Try.ntmps48
   go_wp2_with (first | (go_at_call 61; (with_reducible refine (octet_Reader_Err.calls g s0_0 s0_1 s0_2 t471 t472 t473 t474 w0 _ ?side1 ?side2 A4.out).mono ?_); (case side1 => repeat (first | (with_reducible first | exact HI0.out | apply zawak | apply zawam | apply zawal | apply zawao | apply zawap | apply zawaq) | exact HI0.out)); (case side2 => repeat (first | (with_reducible first | exact HB.out | apply zawad | apply zawab | apply zawac | refine zawaa ?_ (zawan HI0.out)) | exact HB.out)); rintro e w12 ⟨rfl, hi, hb, hk⟩; have n0_ := zawai (KeepBut.trans (zh5 HK) hk (.inl rfl)); have n1_ := zawai (hb); have n2_ := zawai (hi); clear HK; clear HB; clear HI0; have HK := n0_; have HB := n1_; have HI0 := n2_; clear n0_ n1_ n2_; (try clear hb); (try clear hk); (try clear hi)))
   repeat (go_quiet (first | (go_at_call 61; (with_reducible refine (octet_Reader_Err.calls g s0_0 s0_1 s0_2 t471 t472 t473 t474 w0 _ ?side1 ?side2 A4.out).mono ?_); (case side1 => repeat (first | (with_reducible first | exact HI0.out | apply zawak | apply zawam | apply zawal | apply zawao | apply zawap | apply zawaq) | exact HI0.out)); (case side2 => repeat (first | (with_reducible first | exact HB.out | apply zawad | apply zawab | apply zawac | refine zawaa ?_ (zawan HI0.out)) | exact HB.out)); rintro e w12 ⟨rfl, hi, hb, hk⟩; have n0_ := zawai (KeepBut.trans (zh5 HK) hk (.inl rfl)); have n1_ := zawai (hb); have n2_ := zawai (hi); clear HK; clear HB; clear HI0; have HK := n0_; have HB := n1_; have HI0 := n2_; clear n0_ n1_ n2_; (try clear hb); (try clear hk); (try clear hi))); try go_wp2_with (first | (go_at_call 61; (with_reducible refine (octet_Reader_Err.calls g s0_0 s0_1 s0_2 t471 t472 t473 t474 w0 _ ?side1 ?side2 A4.out).mono ?_); (case side1 => repeat (first | (with_reducible first | exact HI0.out | apply zawak | apply zawam | apply zawal | apply zawao | apply zawap | apply zawaq) | exact HI0.out)); (case side2 => repeat (first | (with_reducible first | exact HB.out | apply zawad | apply zawab | apply zawac | refine zawaa ?_ (zawan HI0.out)) | exact HB.out)); rintro e w12 ⟨rfl, hi, hb, hk⟩; have n0_ := zawai (KeepBut.trans (zh5 HK) hk (.inl rfl)); have n1_ := zawai (hb); have n2_ := zawai (hi); clear HK; clear HB; clear HI0; have HK := n0_; have HB := n1_; have HI0 := n2_; clear n0_ n1_ n2_; (try clear hb); (try clear hk); (try clear hi))))
   go_ret
   exact ⟨by first | rfl | (simp [errW_none, errW_some] <;> rfl) | (simp [*, errW_none, errW_some] <;> rfl), zh4 HI0, zh1 HB ⟨zawan HI0.out⟩, zh5 HK⟩
 ·rw [if_neg c3] at H
  have c3b0 : decide (a1 < 0) = false := decide_eq_false c3
  clear c3
  replace H := Option.bind_eq_some_iff.mp H
  obtain ⟨⟨t478, t479, t480, t481⟩, A130, H⟩ := H
  replace H : (some (wrap64 (t478), t479, t480, t481)) = some (r1, r2, r3, r4) := H
  have A13 := zawai A130
  clear A130
  simp only [Option.some.injEq, Prod.mk.injEq] at H
  obtain ⟨rfl, rfl, rfl, rfl⟩ := H
  go_enter Try.func48, Try.ntmps48
  go_wp2_with (first | (go_at_call 63; (with_reducible refine (octet_Reader_Number.calls k g s0_0 s0_1 s0_2 (IntKind.u64.wrap (a1)) t478 t479 t480 t481 w0 _ ?side1 ?side2 A13.out).mono ?_); (case side1 => repeat (first | (with_reducible first | exact HI0.out | apply zawak | apply zawam | apply zawal | apply zawao | apply zawap | apply zawaq) | exact HI0.out)); (case side2 => repeat (first | (with_reducible first | exact HB.out | apply zawad | apply zawab | apply zawac | refine zawaa ?_ (zawan HI0.out)) | exact HB.out)); rintro e w14 ⟨rfl, hi, hb, hk⟩; have n0_ := zawai (KeepBut.trans (zh5 HK) hk (.inl rfl)); have n1_ := zawai (hb); have n2_ := zawai (hi); clear HK; clear HB; clear HI0; have HK := n0_; have HB := n1_; have HI0 := n2_; clear n0_ n1_ n2_; (try clear hb); (try clear hk); (try clear hi)))
  repeat (go_quiet (first | (go_at_call 63; (with_reducible refine (octet_Reader_Number.calls k g s0_0 s0_1 s0_2 (IntKind.u64.wrap (a1)) t478 t479 t480 t481 w0 _ ?side1 ?side2 A13.out).mono ?_); (case side1 => repeat (first | (with_reducible first | exact HI0.out | apply zawak | apply zawam | apply zawal | apply zawao | apply zawap | apply zawaq) | exact HI0.out)); (case side2 => repeat (first | (with_reducible first | exact HB.out | apply zawad | apply zawab | apply zawac | refine zawaa ?_ (zawan HI0.out)) | exact HB.out)); rintro e w14 ⟨rfl, hi, hb, hk⟩; have n0_ := zawai (KeepBut.trans (zh5 HK) hk (.inl rfl)); have n1_ := zawai (hb); have n2_ := zawai (hi); clear HK; clear HB; clear HI0; have HK := n0_; have HB := n1_; have HI0 := n2_; clear n0_ n1_ n2_; (try clear hb); (try clear hk); (try clear hi))); try go_wp2_with (first | (go_at_call 63; (with_reducible refine (octet_Reader_Number.calls k g s0_0 s0_1 s0_2 (IntKind.u64.wrap (a1)) t478 t479 t480 t481 w0 _ ?side1 ?side2 A13.out).mono ?_); (case side1 => repeat (first | (with_reducible first | exact HI0.out | apply zawak | apply zawam | apply zawal | apply zawao | apply zawap | apply zawaq) | exact HI0.out)); (case side2 => repeat (first | (with_reducible first | exact HB.out | apply zawad | apply zawab | apply zawac | refine zawaa ?_ (zawan HI0.out)) | exact HB.out)); rintro e w14 ⟨rfl, hi, hb, hk⟩; have n0_ := zawai (KeepBut.trans (zh5 HK) hk (.inl rfl)); have n1_ := zawai (hb); have n2_ := zawai (hi); clear HK; clear HB; clear HI0; have HK := n0_; have HB := n1_; have HI0 := n2_; clear n0_ n1_ n2_; (try clear hb); (try clear hk); (try clear hi))))
  go_ret
  exact ⟨by first | rfl | (simp [errW_none, errW_some] <;> rfl) | (simp [*, errW_none, errW_some] <;> rfl), zh4 HI0, zh1 HB ⟨zawan HI0.out⟩, zh5 HK⟩

/-! ### octet_Reader_Bool: function 49 -/
def octet_Reader_Bool.f (k : Nat) (s0_0 : ByteArray) (s0_1 : Int) (s0_2 : Int) : Option (Bool × ByteArray × Int × Int) := (octet_Reader_Err.f s0_0 s0_1 s0_2).bind fun bt482 => (if bt482.1 = 0 then ((octet_Reader_Number.f k bt482.2.1 bt482.2.2.1 bt482.2.2.2 1).bind fun bt486 => (if bt486.2.2.2 = 2 then (some ((bt486.1 == 1), bt486.2.1, bt486.2.2.1, 3)) else (some ((bt486.1 == 1), bt486.2.1, bt486.2.2.1, bt486.2.2.2)))) else (some (false, bt482.2.1, bt482.2.2.1, bt482.2.2.2)))
set_option maxHeartbeats 8000000 in
set_option maxRecDepth 100000 in
theorem octet_Reader_Bool.calls (k : Nat) (g : Nat) (s0_0 : ByteArray) (s0_1 : Int) (s0_2 : Int) (r1 : Bool) (r2 : ByteArray) (r3 : Int) (r4 : Int) (w0 w : World) (hI : IsS107 w0 w g s0_0 s0_1 s0_2) (hB : Below w0.heap.size w0 w) (h : octet_Reader_Bool.f k s0_0 s0_1 s0_2 = some (r1, r2, r3, r4)) :
  Calls Try.prog 49 #[.pointer (some ⟨g, 0, none⟩)] w fun e w' => e = .returned (.bool r1) ∧ IsS107 w0 w' g r2 r3 r4 ∧ Below w0.heap.size w0 w' ∧ KeepBut w w' g none := by
 have HI0 := zawai hI
 have HK := zawai (KeepBut.refl w g none)
 have HL := zawai hB.size
 clear hI
 have HW0 := zawai hB.size
 have HB := zawai hB
 clear hB
 have H : ((octet_Reader_Err.f s0_0 s0_1 s0_2).bind fun bt482 => (if bt482.1 = 0 then ((octet_Reader_Number.f k bt482.2.1 bt482.2.2.1 bt482.2.2.2 1).bind fun bt486 => (if bt486.2.2.2 = 2 then (some ((bt486.1 == 1), bt486.2.1, bt486.2.2.1, 3)) else (some ((bt486.1 == 1), bt486.2.1, bt486.2.2.1, bt486.2.2.2)))) else (some (false, bt482.2.1, bt482.2.2.1, bt482.2.2.2)))) = some (r1, r2, r3, r4) := h
 clear h
 replace H := Option.bind_eq_some_iff.mp H
 obtain ⟨⟨t482, t483, t484, t485⟩, A20, H⟩ := H
 replace H : (if t482 = 0 then ((octet_Reader_Number.f k t483 t484 t485 1).bind fun bt486 => (if bt486.2.2.2 = 2 then (some ((bt486.1 == 1), bt486.2.1, bt486.2.2.1, 3)) else (some ((bt486.1 == 1), bt486.2.1, bt486.2.2.1, bt486.2.2.2)))) else (some (false, t483, t484, t485))) = some (r1, r2, r3, r4) := H
 have A2 := zawai A20
 clear A20
 by_cases c3 : t482 = 0
 ·rw [if_pos c3] at H
  have c3b0 : (t482 == 0) = true := beq_iff_eq.mpr c3
  have c3b1 : (t482 != 0) = false := bne_eq_false_iff_eq.mpr c3
  clear c3
  replace H := Option.bind_eq_some_iff.mp H
  obtain ⟨⟨t486, t487, t488, t489⟩, A40, H⟩ := H
  replace H : (if t489 = 2 then (some ((t486 == 1), t487, t488, 3)) else (some ((t486 == 1), t487, t488, t489))) = some (r1, r2, r3, r4) := H
  have A4 := zawai A40
  clear A40
  by_cases c5 : t489 = 2
  ·rw [if_pos c5] at H
   have c5b0 : (t489 == 2) = true := beq_iff_eq.mpr c5
   have c5b1 : (t489 != 2) = false := bne_eq_false_iff_eq.mpr c5
   clear c5
   simp only [Option.some.injEq, Prod.mk.injEq] at H
   obtain ⟨rfl, rfl, rfl, rfl⟩ := H
   go_enter Try.func49, Try.ntmps49
   go_wp2_with (first | ((with_reducible refine gate_callee (f := 61) rfl ?_); refine goesL_ (some 5) rfl rfl Try.func61 (by kernel_rfl) rfl #[.pointer (some ⟨g, 0, none⟩)] rfl (by (try simp only [zawaf, zawag, zawah]); first | done | rfl) ?_; (with_reducible refine (octet_Reader_Err.calls g s0_0 s0_1 s0_2 t482 t483 t484 t485 w0 _ ?side1 ?side2 A2.out).mono ?_); (case side1 => repeat (first | (with_reducible first | exact HI0.out | apply zawak | apply zawam | apply zawal | apply zawao | apply zawap | apply zawaq) | exact HI0.out)); (case side2 => repeat (first | (with_reducible first | exact HB.out | apply zawad | apply zawab | apply zawac | refine zawaa ?_ (zawan HI0.out)) | exact HB.out)); rintro e w6 ⟨rfl, hi, hb, hk⟩; refine ⟨_, rfl, ?_⟩; have n0_ := zawai (KeepBut.trans (zh5 HK) hk (.inl rfl)); have n1_ := zawai (hb); have n2_ := zawai (hi); clear HK; clear HB; clear HI0; have HK := n0_; have HB := n1_; have HI0 := n2_; clear n0_ n1_ n2_; (try clear hb); (try clear hk); (try clear hi)) | ((with_reducible refine gate_callee (f := 63) rfl ?_); refine goesL_ (some 8) rfl rfl Try.func63 (by kernel_rfl) rfl #[.pointer (some ⟨g, 0, none⟩), .int .u64 1] rfl (by (try simp only [zawaf, zawag, zawah]); first | done | rfl) ?_; (with_reducible refine (octet_Reader_Number.calls k g t483 t484 t485 1 t486 t487 t488 t489 w0 _ ?side1 ?side2 A4.out).mono ?_); (case side1 => repeat (first | (with_reducible first | exact HI0.out | apply zawak | apply zawam | apply zawal | apply zawao | apply zawap | apply zawaq) | exact HI0.out)); (case side2 => repeat (first | (with_reducible first | exact HB.out | apply zawad | apply zawab | apply zawac | refine zawaa ?_ (zawan HI0.out)) | exact HB.out)); rintro e w7 ⟨rfl, hi, hb, hk⟩; refine ⟨_, rfl, ?_⟩; have n0_ := zawai (KeepBut.trans (zh5 HK) hk (.inl rfl)); have n1_ := zawai (hb); have n2_ := zawai (hi); clear HK; clear HB; clear HI0; have HK := n0_; have HB := n1_; have HI0 := n2_; clear n0_ n1_ n2_; (try clear hb); (try clear hk); (try clear hi); obtain ⟨HGz8, hgz8⟩ := HI0.out; have zawar := cellS107_0 HGz8; have zawas := cellS107_1 HGz8; have zawat := cellS107_2 HGz8; have zawau := zawae HGz8 0; have zawav := zawae HGz8 1; have zawaw := zawae HGz8 2; clear HGz8 hgz8))
   go_ret
   exact ⟨by first | rfl | (simp [errW_none, errW_some] <;> rfl) | (simp [*, errW_none, errW_some] <;> rfl), zh4 HI0, zh1 HB ⟨zawan HI0.out⟩, zh5 HK⟩
  ·rw [if_neg c5] at H
   have c5b0 : (t489 == 2) = false := beq_eq_false_iff_ne.mpr c5
   have c5b1 : (t489 != 2) = true := bne_iff_ne.mpr c5
   simp only [Option.some.injEq, Prod.mk.injEq] at H
   obtain ⟨rfl, rfl, rfl, rfl⟩ := H
   go_enter Try.func49, Try.ntmps49
   go_wp2_with (first | ((with_reducible refine gate_callee (f := 61) rfl ?_); refine goesL_ (some 5) rfl rfl Try.func61 (by kernel_rfl) rfl #[.pointer (some ⟨g, 0, none⟩)] rfl (by (try simp only [zawaf, zawag, zawah]); first | done | rfl) ?_; (with_reducible refine (octet_Reader_Err.calls g s0_0 s0_1 s0_2 t482 t483 t484 t485 w0 _ ?side1 ?side2 A2.out).mono ?_); (case side1 => repeat (first | (with_reducible first | exact HI0.out | apply zawak | apply zawam | apply zawal | apply zawao | apply zawap | apply zawaq) | exact HI0.out)); (case side2 => repeat (first | (with_reducible first | exact HB.out | apply zawad | apply zawab | apply zawac | refine zawaa ?_ (zawan HI0.out)) | exact HB.out)); rintro e w9 ⟨rfl, hi, hb, hk⟩; refine ⟨_, rfl, ?_⟩; have n0_ := zawai (KeepBut.trans (zh5 HK) hk (.inl rfl)); have n1_ := zawai (hb); have n2_ := zawai (hi); clear HK; clear HB; clear HI0; have HK := n0_; have HB := n1_; have HI0 := n2_; clear n0_ n1_ n2_; (try clear hb); (try clear hk); (try clear hi)) | ((with_reducible refine gate_callee (f := 63) rfl ?_); refine goesL_ (some 8) rfl rfl Try.func63 (by kernel_rfl) rfl #[.pointer (some ⟨g, 0, none⟩), .int .u64 1] rfl (by (try simp only [zawaf, zawag, zawah]); first | done | rfl) ?_; (with_reducible refine (octet_Reader_Number.calls k g t483 t484 t485 1 t486 t487 t488 t489 w0 _ ?side1 ?side2 A4.out).mono ?_); (case side1 => repeat (first | (with_reducible first | exact HI0.out | apply zawak | apply zawam | apply zawal | apply zawao | apply zawap | apply zawaq) | exact HI0.out)); (case side2 => repeat (first | (with_reducible first | exact HB.out | apply zawad | apply zawab | apply zawac | refine zawaa ?_ (zawan HI0.out)) | exact HB.out)); rintro e w10 ⟨rfl, hi, hb, hk⟩; refine ⟨_, rfl, ?_⟩; have n0_ := zawai (KeepBut.trans (zh5 HK) hk (.inl rfl)); have n1_ := zawai (hb); have n2_ := zawai (hi); clear HK; clear HB; clear HI0; have HK := n0_; have HB := n1_; have HI0 := n2_; clear n0_ n1_ n2_; (try clear hb); (try clear hk); (try clear hi); obtain ⟨HGz11, hgz11⟩ := HI0.out; have zawax := cellS107_0 HGz11; have zaway := cellS107_1 HGz11; have zawaz := cellS107_2 HGz11; have zawba := zawae HGz11 0; have zawbb := zawae HGz11 1; have zawbc := zawae HGz11 2; clear HGz11 hgz11))
   go_ret
   exact ⟨by first | rfl | (simp [errW_none, errW_some] <;> rfl) | (simp [*, errW_none, errW_some] <;> rfl), zh4 HI0, zh1 HB ⟨zawan HI0.out⟩, zh5 HK⟩
 ·rw [if_neg c3] at H
  have c3b0 : (t482 == 0) = false := beq_eq_false_iff_ne.mpr c3
  have c3b1 : (t482 != 0) = true := bne_iff_ne.mpr c3
  simp only [Option.some.injEq, Prod.mk.injEq] at H
  obtain ⟨rfl, rfl, rfl, rfl⟩ := H
  go_enter Try.func49, Try.ntmps49
  go_wp2_with (first | ((with_reducible refine gate_callee (f := 61) rfl ?_); refine goesL_ (some 5) rfl rfl Try.func61 (by kernel_rfl) rfl #[.pointer (some ⟨g, 0, none⟩)] rfl (by (try simp only [zawaf, zawag, zawah]); first | done | rfl) ?_; (with_reducible refine (octet_Reader_Err.calls g s0_0 s0_1 s0_2 t482 t483 t484 t485 w0 _ ?side1 ?side2 A2.out).mono ?_); (case side1 => repeat (first | (with_reducible first | exact HI0.out | apply zawak | apply zawam | apply zawal | apply zawao | apply zawap | apply zawaq) | exact HI0.out)); (case side2 => repeat (first | (with_reducible first | exact HB.out | apply zawad | apply zawab | apply zawac | refine zawaa ?_ (zawan HI0.out)) | exact HB.out)); rintro e w12 ⟨rfl, hi, hb, hk⟩; refine ⟨_, rfl, ?_⟩; have n0_ := zawai (KeepBut.trans (zh5 HK) hk (.inl rfl)); have n1_ := zawai (hb); have n2_ := zawai (hi); clear HK; clear HB; clear HI0; have HK := n0_; have HB := n1_; have HI0 := n2_; clear n0_ n1_ n2_; (try clear hb); (try clear hk); (try clear hi)))
  go_ret
  exact ⟨by first | rfl | (simp [errW_none, errW_some] <;> rfl) | (simp [*, errW_none, errW_some] <;> rfl), zh4 HI0, zh1 HB ⟨zawan HI0.out⟩, zh5 HK⟩

/-! ### octet_ReadText: function 64 -/
def octet_ReadText.f (k : Nat) (a0 : ByteArray) (a1 : Int) : Option (ByteArray × Int × Int) := (octet_ReadNumber.f k a0 a1).bind fun bt490 => (if bt490.2.2 = 0 then (if bt490.1 > (IntKind.u64.wrap (wrap64 ((a0.size : Int) - bt490.2.1))) then (some ((⟨#[]⟩ : ByteArray), 0, 5)) else (if 0 ≤ bt490.2.1 then (if bt490.2.1 ≤ (wrap64 (bt490.2.1 + (wrap64 (bt490.1)))) then (if (wrap64 (bt490.2.1 + (wrap64 (bt490.1)))) ≤ (a0.size : Int) then (some (a0.extract (bt490.2.1 : Int).toNat ((wrap64 (bt490.2.1 + (wrap64 (bt490.1)))) : Int).toNat, wrap64 (bt490.2.1 + (wrap64 (bt490.1))), 0)) else (none)) else (none)) else (none))) else (some ((⟨#[]⟩ : ByteArray), 0, bt490.2.2)))
set_option maxHeartbeats 8000000 in
set_option maxRecDepth 100000 in
theorem octet_ReadText.calls (k : Nat) (a0 : ByteArray) (a1 : Int) (r1 : ByteArray) (r2 : Int) (r3 : Int) (w : World) (h : octet_ReadText.f k a0 a1 = some (r1, r2, r3)) :
  Calls Try.prog 64 #[.string a0, .int .i64 a1] w fun e w' => e = .returned (.tuple #[.string r1, .int .i64 r2, .int .i64 r3]) ∧ Drawn0 w w' := by
 have H : ((octet_ReadNumber.f k a0 a1).bind fun bt490 => (if bt490.2.2 = 0 then (if bt490.1 > (IntKind.u64.wrap (wrap64 ((a0.size : Int) - bt490.2.1))) then (some ((⟨#[]⟩ : ByteArray), 0, 5)) else (if 0 ≤ bt490.2.1 then (if bt490.2.1 ≤ (wrap64 (bt490.2.1 + (wrap64 (bt490.1)))) then (if (wrap64 (bt490.2.1 + (wrap64 (bt490.1)))) ≤ (a0.size : Int) then (some (a0.extract (bt490.2.1 : Int).toNat ((wrap64 (bt490.2.1 + (wrap64 (bt490.1)))) : Int).toNat, wrap64 (bt490.2.1 + (wrap64 (bt490.1))), 0)) else (none)) else (none)) else (none))) else (some ((⟨#[]⟩ : ByteArray), 0, bt490.2.2)))) = some (r1, r2, r3) := h
 clear h
 replace H := Option.bind_eq_some_iff.mp H
 obtain ⟨⟨t490, t491, t492⟩, A30, H⟩ := H
 replace H : (if t492 = 0 then (if t490 > (IntKind.u64.wrap (wrap64 ((a0.size : Int) - t491))) then (some ((⟨#[]⟩ : ByteArray), 0, 5)) else (if 0 ≤ t491 then (if t491 ≤ (wrap64 (t491 + (wrap64 (t490)))) then (if (wrap64 (t491 + (wrap64 (t490)))) ≤ (a0.size : Int) then (some (a0.extract (t491 : Int).toNat ((wrap64 (t491 + (wrap64 (t490)))) : Int).toNat, wrap64 (t491 + (wrap64 (t490))), 0)) else (none)) else (none)) else (none))) else (some ((⟨#[]⟩ : ByteArray), 0, t492))) = some (r1, r2, r3) := H
 have A3 := zawai A30
 clear A30
 by_cases c4 : t492 = 0
 ·rw [if_pos c4] at H
  have c4b0 : (t492 == 0) = true := beq_iff_eq.mpr c4
  have c4b1 : (t492 != 0) = false := bne_eq_false_iff_eq.mpr c4
  clear c4
  by_cases c5 : t490 > (IntKind.u64.wrap (wrap64 ((a0.size : Int) - t491)))
  ·rw [if_pos c5] at H
   have c5b0 : decide ((IntKind.u64.wrap (wrap64 ((a0.size : Int) - t491))) < t490) = true := decide_eq_true c5
   clear c5
   simp only [Option.some.injEq, Prod.mk.injEq] at H
   obtain ⟨rfl, rfl, rfl⟩ := H
   go_enter Try.func64, Try.ntmps64
   go_wp2_with (first | ((with_reducible refine gate_callee (f := 62) rfl ?_); refine goesL_ (some 13) rfl rfl Try.func62 (by kernel_rfl) rfl #[.string a0, .int .i64 a1] rfl (by (try simp only [zawaf, zawag, zawah]); first | done | rfl) ?_; (with_reducible refine (octet_ReadNumber.calls k a0 a1 t490 t491 t492 _ A3.out).mono ?_); rintro e w' ⟨rfl, ⟨nd, rfl⟩⟩; refine ⟨_, rfl, ?_⟩))
   go_ret3
   exact ⟨by first | rfl | (simp; done) | (simp [*]; done), by repeat (first | exact Drawn0.refl _ | apply Drawn0.step)⟩
  ·rw [if_neg c5] at H
   have c5b0 : decide ((IntKind.u64.wrap (wrap64 ((a0.size : Int) - t491))) < t490) = false := decide_eq_false c5
   clear c5
   by_cases c6 : 0 ≤ t491
   ·rw [if_pos c6] at H
    have c6b0 := eq_true c6
    have c6b1 : decide (0 ≤ t491) = true := decide_eq_true c6
    clear c6
    by_cases c7 : t491 ≤ (wrap64 (t491 + (wrap64 (t490))))
    ·rw [if_pos c7] at H
     have c7b0 := eq_true c7
     have c7b1 : decide (t491 ≤ (wrap64 (t491 + (wrap64 (t490))))) = true := decide_eq_true c7
     by_cases c8 : (wrap64 (t491 + (wrap64 (t490)))) ≤ (a0.size : Int)
     ·rw [if_pos c8] at H
      have c8b0 := eq_true c8
      have c8b1 : decide ((wrap64 (t491 + (wrap64 (t490)))) ≤ (a0.size : Int)) = true := decide_eq_true c8
      simp only [Option.some.injEq, Prod.mk.injEq] at H
      obtain ⟨rfl, rfl, rfl⟩ := H
      go_enter Try.func64, Try.ntmps64
      go_wp2_with (first | ((with_reducible refine gate_callee (f := 62) rfl ?_); refine goesL_ (some 13) rfl rfl Try.func62 (by kernel_rfl) rfl #[.string a0, .int .i64 a1] rfl (by (try simp only [zawaf, zawag, zawah]); first | done | rfl) ?_; (with_reducible refine (octet_ReadNumber.calls k a0 a1 t490 t491 t492 _ A3.out).mono ?_); rintro e w' ⟨rfl, ⟨nd, rfl⟩⟩; refine ⟨_, rfl, ?_⟩))
      go_ret3
      exact ⟨by first | rfl | (simp; done) | (simp [*]; done), by repeat (first | exact Drawn0.refl _ | apply Drawn0.step)⟩
     ·rw [if_neg c8] at H
      exact absurd H (by simp)
    ·rw [if_neg c7] at H
     exact absurd H (by simp)
   ·rw [if_neg c6] at H
    exact absurd H (by simp)
 ·rw [if_neg c4] at H
  have c4b0 : (t492 == 0) = false := beq_eq_false_iff_ne.mpr c4
  have c4b1 : (t492 != 0) = true := bne_iff_ne.mpr c4
  simp only [Option.some.injEq, Prod.mk.injEq] at H
  obtain ⟨rfl, rfl, rfl⟩ := H
  go_enter Try.func64, Try.ntmps64
  go_wp2_with (first | ((with_reducible refine gate_callee (f := 62) rfl ?_); refine goesL_ (some 13) rfl rfl Try.func62 (by kernel_rfl) rfl #[.string a0, .int .i64 a1] rfl (by (try simp only [zawaf, zawag, zawah]); first | done | rfl) ?_; (with_reducible refine (octet_ReadNumber.calls k a0 a1 t490 t491 t492 _ A3.out).mono ?_); rintro e w' ⟨rfl, ⟨nd, rfl⟩⟩; refine ⟨_, rfl, ?_⟩))
  go_ret3
  exact ⟨by first | rfl | (simp; done) | (simp [*]; done), by repeat (first | exact Drawn0.refl _ | apply Drawn0.step)⟩

/-! ### octet_Reader_Text: function 50 -/
def octet_Reader_Text.j0 : Nat → ByteArray → Int → Int → Bool → ByteArray → Int → Int → Option (ByteArray × ByteArray × Int × Int)
 | 0, _, _, _, _, _, _, _ => none
 | k + 1, x5, x6, x7, x31, x1000, x1001, x1002 => if x31 = true then (some ((⟨#[]⟩ : ByteArray), x1000, x1001, 2)) else (if x7 = 0 then (some (x5, x1000, x6, x1002)) else (some ((⟨#[]⟩ : ByteArray), x1000, x1001, x7)))
def octet_Reader_Text.f (k : Nat) (s0_0 : ByteArray) (s0_1 : Int) (s0_2 : Int) (a1 : Int) : Option (ByteArray × ByteArray × Int × Int) := (octet_Reader_Err.f s0_0 s0_1 s0_2).bind fun bt493 => (if bt493.1 = 0 then ((octet_ReadText.f k bt493.2.1 bt493.2.2.1).bind fun bt497 => (if bt497.2.2 = 0 then (octet_Reader_Text.j0 k bt497.1 bt497.2.1 bt497.2.2 (decide ((bt497.1.size : Int) > a1)) bt493.2.1 bt493.2.2.1 bt493.2.2.2) else (octet_Reader_Text.j0 k bt497.1 bt497.2.1 bt497.2.2 false bt493.2.1 bt493.2.2.1 bt493.2.2.2))) else (some ((⟨#[]⟩ : ByteArray), bt493.2.1, bt493.2.2.1, bt493.2.2.2)))
set_option maxHeartbeats 8000000 in
set_option maxRecDepth 100000 in
theorem octet_Reader_Text.calls (k : Nat) (g : Nat) (s0_0 : ByteArray) (s0_1 : Int) (s0_2 : Int) (a1 : Int) (r1 : ByteArray) (r2 : ByteArray) (r3 : Int) (r4 : Int) (w0 w : World) (hI : IsS107 w0 w g s0_0 s0_1 s0_2) (hB : Below w0.heap.size w0 w) (h : octet_Reader_Text.f k s0_0 s0_1 s0_2 a1 = some (r1, r2, r3, r4)) :
  Calls Try.prog 50 #[.pointer (some ⟨g, 0, none⟩), .int .i64 a1] w fun e w' => e = .returned (.string r1) ∧ IsS107 w0 w' g r2 r3 r4 ∧ Below w0.heap.size w0 w' ∧ KeepBut w w' g none := by
 have HI0 := zawai hI
 have HK := zawai (KeepBut.refl w g none)
 have HL := zawai hB.size
 clear hI
 have HW0 := zawai hB.size
 have HB := zawai hB
 clear hB
 have H : ((octet_Reader_Err.f s0_0 s0_1 s0_2).bind fun bt493 => (if bt493.1 = 0 then ((octet_ReadText.f k bt493.2.1 bt493.2.2.1).bind fun bt497 => (if bt497.2.2 = 0 then (octet_Reader_Text.j0 k bt497.1 bt497.2.1 bt497.2.2 (decide ((bt497.1.size : Int) > a1)) bt493.2.1 bt493.2.2.1 bt493.2.2.2) else (octet_Reader_Text.j0 k bt497.1 bt497.2.1 bt497.2.2 false bt493.2.1 bt493.2.2.1 bt493.2.2.2))) else (some ((⟨#[]⟩ : ByteArray), bt493.2.1, bt493.2.2.1, bt493.2.2.2)))) = some (r1, r2, r3, r4) := h
 clear h
 replace H := Option.bind_eq_some_iff.mp H
 obtain ⟨⟨t493, t494, t495, t496⟩, A30, H⟩ := H
 replace H : (if t493 = 0 then ((octet_ReadText.f k t494 t495).bind fun bt497 => (if bt497.2.2 = 0 then (octet_Reader_Text.j0 k bt497.1 bt497.2.1 bt497.2.2 (decide ((bt497.1.size : Int) > a1)) t494 t495 t496) else (octet_Reader_Text.j0 k bt497.1 bt497.2.1 bt497.2.2 false t494 t495 t496))) else (some ((⟨#[]⟩ : ByteArray), t494, t495, t496))) = some (r1, r2, r3, r4) := H
 have A3 := zawai A30
 clear A30
 by_cases c4 : t493 = 0
 ·rw [if_pos c4] at H
  have c4b0 : (t493 == 0) = true := beq_iff_eq.mpr c4
  have c4b1 : (t493 != 0) = false := bne_eq_false_iff_eq.mpr c4
  clear c4
  replace H := Option.bind_eq_some_iff.mp H
  obtain ⟨⟨t497, t498, t499⟩, A50, H⟩ := H
  replace H : (if t499 = 0 then (octet_Reader_Text.j0 k t497 t498 t499 (decide ((t497.size : Int) > a1)) t494 t495 t496) else (octet_Reader_Text.j0 k t497 t498 t499 false t494 t495 t496)) = some (r1, r2, r3, r4) := H
  have A5 := zawai A50
  clear A50
  have HC6 := zawai H
  clear H
  go_enter Try.func50, Try.ntmps50
  go_upto_region 4 with (first | (go_at_call 61; (with_reducible refine (octet_Reader_Err.calls g s0_0 s0_1 s0_2 t493 t494 t495 t496 w0 _ ?side1 ?side2 A3.out).mono ?_); (case side1 => repeat (first | (with_reducible first | exact HI0.out | apply zawak | apply zawam | apply zawal | apply zawao | apply zawap | apply zawaq) | exact HI0.out)); (case side2 => repeat (first | (with_reducible first | exact HB.out | apply zawad | apply zawab | apply zawac | refine zawaa ?_ (zawan HI0.out)) | exact HB.out)); rintro e w7 ⟨rfl, hi, hb, hk⟩; have n0_ := zawai (KeepBut.trans (zh5 HK) hk (.inl rfl)); have n1_ := zawai (hb); have n2_ := zawai (hi); clear HK; clear HB; clear HI0; have HK := n0_; have HB := n1_; have HI0 := n2_; clear n0_ n1_ n2_; (try clear hb); (try clear hk); (try clear hi); obtain ⟨HGz8, hgz8⟩ := HI0.out; have zawar := cellS107_0 HGz8; have zawas := cellS107_1 HGz8; have zawat := cellS107_2 HGz8; have zawau := zawae HGz8 0; have zawav := zawae HGz8 1; have zawaw := zawae HGz8 2; clear HGz8 hgz8) | (go_at_call 64; (with_reducible refine (octet_ReadText.calls k t494 t495 t497 t498 t499 _ A5.out).mono ?_); rintro e w' ⟨rfl, ⟨nd, rfl⟩⟩; (try first | exact ⟨rfl, _, World.drewN_drewN _ _ _⟩ | exact ⟨rfl, _, Eq.trans (World.drewN_drewN _ _ _) (congrArg (World.drewN _) (Nat.add_assoc _ _ _))⟩)))
  repeat (go_quiet (first | (go_at_call 61; (with_reducible refine (octet_Reader_Err.calls g s0_0 s0_1 s0_2 t493 t494 t495 t496 w0 _ ?side1 ?side2 A3.out).mono ?_); (case side1 => repeat (first | (with_reducible first | exact HI0.out | apply zawak | apply zawam | apply zawal | apply zawao | apply zawap | apply zawaq) | exact HI0.out)); (case side2 => repeat (first | (with_reducible first | exact HB.out | apply zawad | apply zawab | apply zawac | refine zawaa ?_ (zawan HI0.out)) | exact HB.out)); rintro e w7 ⟨rfl, hi, hb, hk⟩; have n0_ := zawai (KeepBut.trans (zh5 HK) hk (.inl rfl)); have n1_ := zawai (hb); have n2_ := zawai (hi); clear HK; clear HB; clear HI0; have HK := n0_; have HB := n1_; have HI0 := n2_; clear n0_ n1_ n2_; (try clear hb); (try clear hk); (try clear hi); obtain ⟨HGz8, hgz8⟩ := HI0.out; have zawar := cellS107_0 HGz8; have zawas := cellS107_1 HGz8; have zawat := cellS107_2 HGz8; have zawau := zawae HGz8 0; have zawav := zawae HGz8 1; have zawaw := zawae HGz8 2; clear HGz8 hgz8) | (go_at_call 64; (with_reducible refine (octet_ReadText.calls k t494 t495 t497 t498 t499 _ A5.out).mono ?_); rintro e w' ⟨rfl, ⟨nd, rfl⟩⟩; (try first | exact ⟨rfl, _, World.drewN_drewN _ _ _⟩ | exact ⟨rfl, _, Eq.trans (World.drewN_drewN _ _ _) (congrArg (World.drewN _) (Nat.add_assoc _ _ _))⟩))); go_upto_region 4 with (first | (go_at_call 61; (with_reducible refine (octet_Reader_Err.calls g s0_0 s0_1 s0_2 t493 t494 t495 t496 w0 _ ?side1 ?side2 A3.out).mono ?_); (case side1 => repeat (first | (with_reducible first | exact HI0.out | apply zawak | apply zawam | apply zawal | apply zawao | apply zawap | apply zawaq) | exact HI0.out)); (case side2 => repeat (first | (with_reducible first | exact HB.out | apply zawad | apply zawab | apply zawac | refine zawaa ?_ (zawan HI0.out)) | exact HB.out)); rintro e w7 ⟨rfl, hi, hb, hk⟩; have n0_ := zawai (KeepBut.trans (zh5 HK) hk (.inl rfl)); have n1_ := zawai (hb); have n2_ := zawai (hi); clear HK; clear HB; clear HI0; have HK := n0_; have HB := n1_; have HI0 := n2_; clear n0_ n1_ n2_; (try clear hb); (try clear hk); (try clear hi); obtain ⟨HGz8, hgz8⟩ := HI0.out; have zawar := cellS107_0 HGz8; have zawas := cellS107_1 HGz8; have zawat := cellS107_2 HGz8; have zawau := zawae HGz8 0; have zawav := zawae HGz8 1; have zawaw := zawae HGz8 2; clear HGz8 hgz8) | (go_at_call 64; (with_reducible refine (octet_ReadText.calls k t494 t495 t497 t498 t499 _ A5.out).mono ?_); rintro e w' ⟨rfl, ⟨nd, rfl⟩⟩; (try first | exact ⟨rfl, _, World.drewN_drewN _ _ _⟩ | exact ⟨rfl, _, Eq.trans (World.drewN_drewN _ _ _) (congrArg (World.drewN _) (Nat.add_assoc _ _ _))⟩))))
  (try simp only [Act.put, List.setIfInBounds_toArray, List.set_cons_zero, List.set_cons_succ])
  go_cut [31] (fun v31 wc => ∃ (kq : Nat) (zawbe : Bool), v31 = .bool zawbe ∧ Aside0 (octet_Reader_Text.j0 kq t497 t498 t499 zawbe t494 t495 t496 = some (r1, r2, r3, r4)) ∧ Aside0 (kq ≤ k) ∧ Aside0 (IsS107 w0 wc g t494 t495 t496) ∧ Aside0 (KeepBut w wc g none) ∧ Aside0 (Below w0.heap.size w0 wc))
  case first =>
   have H := HC6.out
   clear HC6
   by_cases c9 : t499 = 0
   ·rw [if_pos c9] at H
    have c9b0 : (t499 == 0) = true := beq_iff_eq.mpr c9
    have c9b1 : (t499 != 0) = false := bne_eq_false_iff_eq.mpr c9
    clear c9
    (first | rw [c9b0] | (simp only [i64_w, i32_w]; rw [c9b0]) | skip)
    have H' := zawai H
    clear H
    go_wp2
    repeat (go_quiet (fail); try go_wp2)
    go_meet
    case rel => exact ⟨_, (decide ((t497.size : Int) > a1)), (by first | rfl | (simp; done) | (simp [*]; done)), H', ⟨by first | omega | exact Nat.le_refl _⟩, ⟨zh4 HI0⟩, ⟨zh5 HK⟩, ⟨zh1 HB ⟨zawan HI0.out⟩⟩⟩
   ·rw [if_neg c9] at H
    have c9b0 : (t499 == 0) = false := beq_eq_false_iff_ne.mpr c9
    have c9b1 : (t499 != 0) = true := bne_iff_ne.mpr c9
    (first | rw [c9b0] | (simp only [i64_w, i32_w]; rw [c9b0]) | skip)
    have H' := zawai H
    clear H
    go_wp2
    repeat (go_quiet (fail); try go_wp2)
    go_meet
    case rel => exact ⟨_, (false), (by first | rfl | (simp; done) | (simp [*]; done)), H', ⟨by first | omega | exact Nat.le_refl _⟩, ⟨zh4 HI0⟩, ⟨zh5 HK⟩, ⟨zh1 HB ⟨zawan HI0.out⟩⟩⟩
  case rest =>
   clear HC6
   try clear p2
   try clear c4
   try clear c4b0
   try clear c4b1
   try clear c5
   try clear c9
   try clear c9b0
   try clear c9b1
   try clear zawar
   try clear zawas
   try clear zawat
   try clear zawau
   try clear zawav
   try clear zawaw
   obtain ⟨kq, zawbe, rfl, HA, HJ5, HI0, HK, HB⟩ := hcut
   cases kq with
   | zero => exact absurd HA.out (by simp [octet_Reader_Text.j0])
   | succ kj5 =>
    have H := HA.out
    clear HA
    simp only [octet_Reader_Text.j0] at H
    by_cases c10 : zawbe = true
    ·subst c10
     have H1 : (some ((⟨#[]⟩ : ByteArray), t494, t495, 2)) = some (r1, r2, r3, r4) := by rw [if_pos rfl] at H; exact H
     clear H
     have H := H1
     clear H1
     simp only [Option.some.injEq, Prod.mk.injEq] at H
     obtain ⟨rfl, rfl, rfl, rfl⟩ := H
     obtain ⟨HGz11, hgz11⟩ := HI0.out
     have zawax := cellS107_0 HGz11
     have zaway := cellS107_1 HGz11
     have zawaz := cellS107_2 HGz11
     have zawba := zawae HGz11 0
     have zawbb := zawae HGz11 1
     have zawbc := zawae HGz11 2
     clear HGz11 hgz11
     go_wp2
     repeat (go_quiet (fail); try go_wp2)
     go_ret
     exact ⟨by first | rfl | (simp [errW_none, errW_some] <;> rfl) | (simp [*, errW_none, errW_some] <;> rfl), zh4 HI0, zh1 HB ⟨zawan HI0.out⟩, zh5 HK⟩
    ·replace c10 := Bool.eq_false_iff.mpr c10
     subst c10
     have H1 : (if t499 = 0 then (some (t497, t494, t498, t496)) else (some ((⟨#[]⟩ : ByteArray), t494, t495, t499))) = some (r1, r2, r3, r4) := by rw [if_neg (show ¬ (false = true) by decide)] at H; exact H
     clear H
     have H := H1
     clear H1
     by_cases c12 : t499 = 0
     ·rw [if_pos c12] at H
      have c12b0 : (t499 == 0) = true := beq_iff_eq.mpr c12
      have c12b1 : (t499 != 0) = false := bne_eq_false_iff_eq.mpr c12
      clear c12
      simp only [Option.some.injEq, Prod.mk.injEq] at H
      obtain ⟨rfl, rfl, rfl, rfl⟩ := H
      obtain ⟨HGz13, hgz13⟩ := HI0.out
      have zawbl := cellS107_0 HGz13
      have zawbm := cellS107_1 HGz13
      have zawbn := cellS107_2 HGz13
      have zawbo := zawae HGz13 0
      have zawbp := zawae HGz13 1
      have zawbq := zawae HGz13 2
      clear HGz13 hgz13
      go_wp2
      repeat (go_quiet (fail); try go_wp2)
      go_ret
      exact ⟨by first | rfl | (simp [errW_none, errW_some] <;> rfl) | (simp [*, errW_none, errW_some] <;> rfl), zh4 HI0, zh1 HB ⟨zawan HI0.out⟩, zh5 HK⟩
     ·rw [if_neg c12] at H
      have c12b0 : (t499 == 0) = false := beq_eq_false_iff_ne.mpr c12
      have c12b1 : (t499 != 0) = true := bne_iff_ne.mpr c12
      simp only [Option.some.injEq, Prod.mk.injEq] at H
      obtain ⟨rfl, rfl, rfl, rfl⟩ := H
      obtain ⟨HGz14, hgz14⟩ := HI0.out
      have zawbr := cellS107_0 HGz14
      have zawbs := cellS107_1 HGz14
      have zawbt := cellS107_2 HGz14
      have zawbu := zawae HGz14 0
      have zawbv := zawae HGz14 1
      have zawbw := zawae HGz14 2
      clear HGz14 hgz14
      go_wp2
      repeat (go_quiet (fail); try go_wp2)
      go_ret
      exact ⟨by first | rfl | (simp [errW_none, errW_some] <;> rfl) | (simp [*, errW_none, errW_some] <;> rfl), zh4 HI0, zh1 HB ⟨zawan HI0.out⟩, zh5 HK⟩
 ·rw [if_neg c4] at H
  have c4b0 : (t493 == 0) = false := beq_eq_false_iff_ne.mpr c4
  have c4b1 : (t493 != 0) = true := bne_iff_ne.mpr c4
  simp only [Option.some.injEq, Prod.mk.injEq] at H
  obtain ⟨rfl, rfl, rfl, rfl⟩ := H
  go_enter Try.func50, Try.ntmps50
  go_wp2_with (first | (go_at_call 61; (with_reducible refine (octet_Reader_Err.calls g s0_0 s0_1 s0_2 t493 t494 t495 t496 w0 _ ?side1 ?side2 A3.out).mono ?_); (case side1 => repeat (first | (with_reducible first | exact HI0.out | apply zawak | apply zawam | apply zawal | apply zawao | apply zawap | apply zawaq) | exact HI0.out)); (case side2 => repeat (first | (with_reducible first | exact HB.out | apply zawad | apply zawab | apply zawac | refine zawaa ?_ (zawan HI0.out)) | exact HB.out)); rintro e w15 ⟨rfl, hi, hb, hk⟩; have n0_ := zawai (KeepBut.trans (zh5 HK) hk (.inl rfl)); have n1_ := zawai (hb); have n2_ := zawai (hi); clear HK; clear HB; clear HI0; have HK := n0_; have HB := n1_; have HI0 := n2_; clear n0_ n1_ n2_; (try clear hb); (try clear hk); (try clear hi)))
  repeat (go_quiet (first | (go_at_call 61; (with_reducible refine (octet_Reader_Err.calls g s0_0 s0_1 s0_2 t493 t494 t495 t496 w0 _ ?side1 ?side2 A3.out).mono ?_); (case side1 => repeat (first | (with_reducible first | exact HI0.out | apply zawak | apply zawam | apply zawal | apply zawao | apply zawap | apply zawaq) | exact HI0.out)); (case side2 => repeat (first | (with_reducible first | exact HB.out | apply zawad | apply zawab | apply zawac | refine zawaa ?_ (zawan HI0.out)) | exact HB.out)); rintro e w15 ⟨rfl, hi, hb, hk⟩; have n0_ := zawai (KeepBut.trans (zh5 HK) hk (.inl rfl)); have n1_ := zawai (hb); have n2_ := zawai (hi); clear HK; clear HB; clear HI0; have HK := n0_; have HB := n1_; have HI0 := n2_; clear n0_ n1_ n2_; (try clear hb); (try clear hk); (try clear hi))); try go_wp2_with (first | (go_at_call 61; (with_reducible refine (octet_Reader_Err.calls g s0_0 s0_1 s0_2 t493 t494 t495 t496 w0 _ ?side1 ?side2 A3.out).mono ?_); (case side1 => repeat (first | (with_reducible first | exact HI0.out | apply zawak | apply zawam | apply zawal | apply zawao | apply zawap | apply zawaq) | exact HI0.out)); (case side2 => repeat (first | (with_reducible first | exact HB.out | apply zawad | apply zawab | apply zawac | refine zawaa ?_ (zawan HI0.out)) | exact HB.out)); rintro e w15 ⟨rfl, hi, hb, hk⟩; have n0_ := zawai (KeepBut.trans (zh5 HK) hk (.inl rfl)); have n1_ := zawai (hb); have n2_ := zawai (hi); clear HK; clear HB; clear HI0; have HK := n0_; have HB := n1_; have HI0 := n2_; clear n0_ n1_ n2_; (try clear hb); (try clear hk); (try clear hi))))
  go_ret
  exact ⟨by first | rfl | (simp [errW_none, errW_some] <;> rfl) | (simp [*, errW_none, errW_some] <;> rfl), zh4 HI0, zh1 HB ⟨zawan HI0.out⟩, zh5 HK⟩

/-- Err answers a reader's error and leaves the world. -/
theorem octet_Reader_Err.quiet (w0 : World) (g : Nat) (s0_0 : ByteArray) (s0_1 : Int) (e : Int) (w : World) (hI : IsS107 w0 w g s0_0 s0_1 e) :
  Calls Try.prog 61 #[.pointer (some ⟨g, 0, none⟩)] w fun e' w' => e' = .returned (.int .i64 e) ∧ w' = w := by
 obtain ⟨hb, hg⟩ := hI
 have hc2 := cellS107_2 hb
 have hf2 := zawae hb 2
 clear hb hg
 go_enter Try.func61, Try.ntmps61
 go_wp2
 go_ret
 exact ⟨rfl, rfl⟩
def octet_Reader_End.f (s0_0 : ByteArray) (s0_1 : Int) (s0_2 : Int) : Option (Int × ByteArray × Int × Int) := if s0_2 = 0 then (if s0_1 < (s0_0.size : Int) then some (2, s0_0, s0_1, 2) else some (s0_2, s0_0, s0_1, s0_2)) else some (s0_2, s0_0, s0_1, s0_2)
theorem octet_Reader_End.calls (g : Nat) (s0_0 : ByteArray) (s0_1 : Int) (s0_2 : Int) (r1 : Int) (r2 : ByteArray) (r3 : Int) (r4 : Int) (w0 w : World) (hI : IsS107 w0 w g s0_0 s0_1 s0_2) (hB : Below w0.heap.size w0 w) (h : octet_Reader_End.f s0_0 s0_1 s0_2 = some (r1, r2, r3, r4)) :
  Calls Try.prog 51 #[.pointer (some ⟨g, 0, none⟩)] w fun e w' => e = .returned (.int .i64 r1) ∧ IsS107 w0 w' g r2 r3 r4 ∧ Below w0.heap.size w0 w' ∧ KeepBut w w' g none := by
 have HI0 := zawai hI
 have HB := zawai hB
 have HK := zawai (KeepBut.refl w g none)
 obtain ⟨hb, hg⟩ := hI
 have hc0 := cellS107_0 hb
 have hc1 := cellS107_1 hb
 have hc2 := cellS107_2 hb
 have hf0 := zawae hb 0
 have hf1 := zawae hb 1
 have hf2 := zawae hb 2
 clear hb hg hB
 unfold octet_Reader_End.f at h
 by_cases c : s0_2 = 0
 ·subst c
  rw [if_pos rfl] at h
  by_cases c2 : s0_1 < (s0_0.size : Int)
  ·rw [if_pos c2] at h
   simp only [Option.some.injEq, Prod.mk.injEq] at h
   obtain ⟨rfl, rfl, rfl, rfl⟩ := h
   have d2 : decide (s0_1 < (s0_0.size : Int)) = true := decide_eq_true c2
   go_enter Try.func51, Try.ntmps51
   go_upto_region 1 with (fail)
   go_quiet (first | (go_at_call 61; (with_reducible refine (octet_Reader_Err.quiet w0 g s0_0 s0_1 0 _ ?side1).mono ?_); (case side1 => (repeat (first | (with_reducible first | exact HI0.out | apply zawak | apply zawam | apply zawal | apply zawaq) | exact HI0.out))); rintro e w' ⟨rfl, rfl⟩; first | done | exact ⟨rfl, _, rfl⟩))
   go_wp2_with (first | (go_at_call 61; (with_reducible refine (octet_Reader_Err.quiet w0 g s0_0 s0_1 2 _ ?side1).mono ?_); (case side1 => (repeat (first | (with_reducible first | exact HI0.out | apply zawak | apply zawam | apply zawal | apply zawaq) | exact HI0.out))); rintro e w' ⟨rfl, rfl⟩))
   go_ret
   refine ⟨rfl, ?_, ?_, ?_⟩
   ·(repeat (first | (with_reducible first | exact HI0.out | apply zawak | apply zawam | apply zawal | apply zawaq) | exact HI0.out))
   ·repeat (first | (with_reducible first | exact HB.out | apply zawad | apply zawab | apply zawac | refine zawaa ?_ (zawan HI0.out)) | exact HB.out)
   ·repeat (first | (with_reducible first | exact HK.out | apply KeepBut.set_ | apply keep_drewN | apply keep_drew | apply keep_alloc) | exact HK.out)
  ·rw [if_neg c2] at h
   simp only [Option.some.injEq, Prod.mk.injEq] at h
   obtain ⟨rfl, rfl, rfl, rfl⟩ := h
   have d2 : decide (s0_1 < (s0_0.size : Int)) = false := decide_eq_false c2
   go_enter Try.func51, Try.ntmps51
   go_upto_region 1 with (fail)
   go_quiet (first | (go_at_call 61; (with_reducible refine (octet_Reader_Err.quiet w0 g s0_0 s0_1 0 _ ?side1).mono ?_); (case side1 => (repeat (first | (with_reducible first | exact HI0.out | apply zawak | apply zawam | apply zawal | apply zawaq) | exact HI0.out))); rintro e w' ⟨rfl, rfl⟩; first | done | exact ⟨rfl, _, rfl⟩))
   go_wp2_with (first | (go_at_call 61; (with_reducible refine (octet_Reader_Err.quiet w0 g s0_0 s0_1 0 _ ?side1).mono ?_); (case side1 => (repeat (first | (with_reducible first | exact HI0.out | apply zawak | apply zawam | apply zawal | apply zawaq) | exact HI0.out))); rintro e w' ⟨rfl, rfl⟩))
   go_ret
   refine ⟨rfl, ?_, ?_, ?_⟩
   ·(repeat (first | (with_reducible first | exact HI0.out | apply zawak | apply zawam | apply zawal | apply zawaq) | exact HI0.out))
   ·repeat (first | (with_reducible first | exact HB.out | apply zawad | apply zawab | apply zawac | refine zawaa ?_ (zawan HI0.out)) | exact HB.out)
   ·repeat (first | (with_reducible first | exact HK.out | apply KeepBut.set_ | apply keep_drewN | apply keep_drew | apply keep_alloc) | exact HK.out)
 ·rw [if_neg c] at h
  simp only [Option.some.injEq, Prod.mk.injEq] at h
  obtain ⟨rfl, rfl, rfl, rfl⟩ := h
  have d1 : (s0_2 == 0) = false := beq_eq_false_iff_ne.mpr c
  go_enter Try.func51, Try.ntmps51
  go_upto_region 1 with (fail)
  go_quiet (first | (go_at_call 61; (with_reducible refine (octet_Reader_Err.quiet w0 g s0_0 s0_1 s0_2 _ ?side1).mono ?_); (case side1 => (repeat (first | (with_reducible first | exact HI0.out | apply zawak | apply zawam | apply zawal | apply zawaq) | exact HI0.out))); rintro e w' ⟨rfl, rfl⟩; first | done | exact ⟨rfl, _, rfl⟩))
  go_wp2_with (first | (go_at_call 61; (with_reducible refine (octet_Reader_Err.quiet w0 g s0_0 s0_1 s0_2 _ ?side1).mono ?_); (case side1 => (repeat (first | (with_reducible first | exact HI0.out | apply zawak | apply zawam | apply zawal | apply zawaq) | exact HI0.out))); rintro e w' ⟨rfl, rfl⟩))
  go_ret
  refine ⟨rfl, ?_, ?_, ?_⟩
  ·(repeat (first | (with_reducible first | exact HI0.out | apply zawak | apply zawam | apply zawal | apply zawaq) | exact HI0.out))
  ·repeat (first | (with_reducible first | exact HB.out | apply zawad | apply zawab | apply zawac | refine zawaa ?_ (zawan HI0.out)) | exact HB.out)
  ·repeat (first | (with_reducible first | exact HK.out | apply KeepBut.set_ | apply keep_drewN | apply keep_drew | apply keep_alloc) | exact HK.out)

end Go.Proofs.Ytmpnaaegahjfkaa.Q