

/- Written by a program of this session (wip/patch_print.py over the kit's print): functions of the given program as plain Lean functions, and that each call does what its function says, under no further conditions. -/
import Derived.Test.YtmpnaaegahjfkaaQx0
import Derived.Test.YtmpnaaegahjfkaaQx3
import Derived.Test.YtmpnaaegahjfkaaQx4
namespace Go.Proofs.Ytmpnaaegahjfkaa.Q
open Go.RowKit Go.Proofs.YtmpnaaegahjfkaaW.PrintWords Go.Proofs.YtmpnaaegahjfkaaW.PrintLast Go.Proofs.YtmpnaaegahjfkaaW.PrintMore
attribute [local go_sem] max2_int min2_int max_two min_two max_three min_three max_four min_four   -- for this text's walks alone
set_option linter.unusedVariables false
set_option linter.unusedSimpArgs false
attribute [local go_sem] xor_ones_u8 xor_ones_u16 xor_ones_u32 xor_ones_u64 cell_twice frozen_twice
abbrev zajaa := @List.setIfInBounds_toArray
abbrev zajab := @List.set_cons_zero
abbrev zajac := @List.set_cons_succ
abbrev zajad := @blk_drewN
abbrev zajae := @blk_alloc
abbrev zajaf := @blk_drew
abbrev zajag := @below_set
abbrev zajah := @pw_below_drewN
abbrev zajai := @below_drew1
abbrev zajaj := @below_alloc
abbrev zajak := @blk_cell
abbrev zajal := @blk_frozen
abbrev zajam := @cell_far
abbrev zajan := @Aside0.mk
abbrev zajsq0 : Array Bool := #[false, false, false, false, false, false, false, false, false, false, false, false, false]
abbrev zajsq1 : Array Bool := #[true, false, false, false, false, false, false, false, false, false, false, false, false]
abbrev zajsq2 : Array Bool := #[true, false, true, false, false, false, false, false, false, false, false, false, false]
abbrev zajsq3 : Array Bool := #[true, false, true, false, true, false, false, false, false, false, false, false, false]
abbrev zajsq4 : Array Bool := #[true, false, true, false, true, false, true, false, false, false, false, false, false]
abbrev zajsq5 : Array Bool := #[true, false, true, false, true, false, true, false, true, false, false, false, false]
abbrev zajsq6 : Array Bool := #[true, true, true, false, true, false, true, false, true, false, false, false, false]
abbrev zajsq7 : Array Bool := #[true, true, true, true, true, false, true, false, true, false, false, false, false]
abbrev zajsq8 : Array Bool := #[true, true, true, true, true, true, true, false, true, false, false, false, false]
abbrev zajsq9 : Array Bool := #[true, true, true, true, true, true, true, true, true, false, false, false, false]
abbrev zajsq10 : Array Bool := #[true, true, true, true, true, true, true, true, true, true, false, false, false]
abbrev zajsq11 : Array Bool := #[true, true, true, true, true, true, true, true, true, true, true, false, false]
abbrev zajsq12 : Array Bool := #[true, true, true, true, true, true, true, true, true, true, true, true, false]
abbrev zajsq13 : Array Bool := #[true, true, true, true, true, true, true, true, true, true, true, true, true]
/-! ### stowageref13_Check: function 14 -/
mutual
def stowageref13_Check.j0 : Nat → Bool → Int → Bool → Int → ByteArray → List (S74) → Option (Int)
 | 0, _, _, _, _, _, _ => none
 | k + 1, x12, zajbb, zajaw, zajax, zajay, zajaz => if x12 = true then (some 1) else ((stowageref13_Pieces.f k zajaz).bind fun bt215 => (if zajaw = true then (if zajax = 0 then (if zajay.toList = ([] : List UInt8) then (stowageref13_Check.j1 k bt215.1 bt215.2 ((zajaz.length : Int) != 0) zajbb zajaw zajax zajay zajaz) else (stowageref13_Check.j1 k bt215.1 bt215.2 true zajbb zajaw zajax zajay zajaz)) else (stowageref13_Check.j1 k bt215.1 bt215.2 true zajbb zajaw zajax zajay zajaz)) else (stowageref13_Check.j1 k bt215.1 bt215.2 false zajbb zajaw zajax zajay zajaz)))
def stowageref13_Check.j1 : Nat → Int → Int → Bool → Int → Bool → Int → ByteArray → List (S74) → Option (Int)
 | 0, _, _, _, _, _, _, _, _ => none
 | k + 1, x3, x4, x36, zajbb, zajaw, zajax, zajay, zajaz => if x36 = true then (some 1) else (if zajaw = true then (some 0) else (if x4 = 0 then (if x3 = zajax then (if x3 > 1048576 then (some 1) else ((stowageref06_May.f k zajay).bind fun t217 => (if t217 = true then (some 0) else (some 1)))) else (some 1)) else (some 1)))
end
def stowageref13_Check.f (k : Nat) (a0_0 : Int) (a0_1 : Bool) (a0_2 : Int) (a0_3 : ByteArray) (l0_4 : List (S74)) : Option (Int) := if a0_0 < 1 then (stowageref13_Check.j0 k true a0_0 a0_1 a0_2 a0_3 l0_4) else (stowageref13_Check.j0 k (decide (a0_0 > 1099511627776)) a0_0 a0_1 a0_2 a0_3 l0_4)
set_option maxHeartbeats 8000000 in
set_option maxRecDepth 100000 in
theorem stowageref13_Check.calls (k : Nat) (a0_0 : Int) (a0_1 : Bool) (a0_2 : Int) (a0_3 : ByteArray) (A0_4 : Option Addr) (c0_4 : Nat) (l0_4 : List (S74)) (r : Int) (w : World) (hr0_4 : Kd.C k74 w A0_4 l0_4.length l0_4) (hc0_4 : l0_4.length ≤ c0_4) (h : stowageref13_Check.f k a0_0 a0_1 a0_2 a0_3 l0_4 = some r) :
  Calls Try.prog 14 #[.agg #[.int .i64 a0_0, .bool a0_1, .int .i64 a0_2, .string a0_3, .slice A0_4 l0_4.length c0_4]] w fun e w' => e = .returned (.int .i64 r) ∧ Below w.heap.size w w' := by
 have hu36 := Try.underlying36
 have HR0_4 := zajan hr0_4
 have HC0_4 := zajan hc0_4
 clear hr0_4 hc0_4
 have HB := zajan (Below.refl w.heap.size w)
 have H : (if a0_0 < 1 then (stowageref13_Check.j0 k true a0_0 a0_1 a0_2 a0_3 l0_4) else (stowageref13_Check.j0 k (decide (a0_0 > 1099511627776)) a0_0 a0_1 a0_2 a0_3 l0_4)) = some r := h
 clear h
 have HC2 := zajan H
 clear H
 go_enter Try.func14, Try.ntmps14
 go_upto_region 1 with (first | ((with_reducible refine gate_dst (N := 1) rfl ?_); (try (refine gate_guard (by rfl) ?_; dsimp only)); refine box_event ?hg (N := 1) ?hd (cs := #[.int .i64 a0_0, .bool a0_1, .int .i64 a0_2, .string a0_3, .slice A0_4 l0_4.length c0_4]) (t := 36) ?hr ?_; (case hd => rfl); (case hg => rfl); (case hr => first | (go_simp; done) | (go_simp; rfl)); intro zajap hg w3 hbox hb; have n0_ := zajan (below_step (zh0 HB) hb); have n1_ := zajan (hbox); have n2_ := zns hg (zh0 HB); have n3_ := zns hg (zh0 HB); clear HB; have HB := n0_; have zajao := n1_; have zajgg := n2_; have zajau := n3_; clear n0_ n1_ n2_ n3_; clear hb hbox hg))
 (try simp only [Act.put, zajaa, zajab, zajac])
 go_cut [12] (fun v12 wc => ∃ (kq : Nat) (zajbd : Bool), v12 = .bool zajbd ∧ Aside0 (stowageref13_Check.j0 kq zajbd a0_0 a0_1 a0_2 a0_3 l0_4 = some r) ∧ Aside0 (kq ≤ k) ∧ Aside0 (wc.heap[zajap]? = some (.cells #[.int .i64 a0_0, .bool a0_1, .int .i64 a0_2, .string a0_3, (.slice A0_4 l0_4.length c0_4)] 36 (0, 0))) ∧ Aside0 (Below w.heap.size w wc))
 case first =>
  have H := HC2.out
  clear HC2
  by_cases c4 : a0_0 < 1
  ·rw [if_pos c4] at H
   have c4b0 : decide (a0_0 < 1) = true := decide_eq_true c4
   clear c4
   (first | rw [c4b0] | (simp only [i64_w, i32_w]; rw [c4b0]) | skip)
   have H' := zajan H
   clear H
   have zajbg : w3.cell? ⟨zajap, 0, none⟩ = some (.int .i64 a0_0) := (zajak zajao.out 0).trans rfl
   have zajbh : w3.cell? ⟨zajap, 1, none⟩ = some (.bool a0_1) := (zajak zajao.out 1).trans rfl
   have zajbi : w3.cell? ⟨zajap, 2, none⟩ = some (.int .i64 a0_2) := (zajak zajao.out 2).trans rfl
   have zajbj : w3.cell? ⟨zajap, 3, none⟩ = some (.string a0_3) := (zajak zajao.out 3).trans rfl
   have zajbk : w3.cell? ⟨zajap, 4, none⟩ = some (.slice A0_4 l0_4.length c0_4) := (zajak zajao.out 4).trans rfl
   have zajbl := zajal zajao.out 0
   have zajbm := zajal zajao.out 1
   have zajbn := zajal zajao.out 2
   have zajbo := zajal zajao.out 3
   have zajbp := zajal zajao.out 4
   go_wp2
   go_meet
   case rel => exact ⟨_, (true), (by first | rfl | (simp; done) | (simp [*]; done)), H', ⟨by first | omega | exact Nat.le_refl _⟩, ⟨zbk zajao⟩, ⟨zh1 HB zajau⟩⟩
  ·rw [if_neg c4] at H
   have c4b0 : decide (a0_0 < 1) = false := decide_eq_false c4
   clear c4
   (first | rw [c4b0] | (simp only [i64_w, i32_w]; rw [c4b0]) | skip)
   have H' := zajan H
   clear H
   have zajbq : w3.cell? ⟨zajap, 0, none⟩ = some (.int .i64 a0_0) := (zajak zajao.out 0).trans rfl
   have zajbr : w3.cell? ⟨zajap, 1, none⟩ = some (.bool a0_1) := (zajak zajao.out 1).trans rfl
   have zajbs : w3.cell? ⟨zajap, 2, none⟩ = some (.int .i64 a0_2) := (zajak zajao.out 2).trans rfl
   have zajbt : w3.cell? ⟨zajap, 3, none⟩ = some (.string a0_3) := (zajak zajao.out 3).trans rfl
   have zajbu : w3.cell? ⟨zajap, 4, none⟩ = some (.slice A0_4 l0_4.length c0_4) := (zajak zajao.out 4).trans rfl
   have zajbv := zajal zajao.out 0
   have zajbw := zajal zajao.out 1
   have zajbx := zajal zajao.out 2
   have zajby := zajal zajao.out 3
   have zajbz := zajal zajao.out 4
   go_wp2
   go_meet
   case rel => exact ⟨_, (decide (a0_0 > 1099511627776)), (by first | rfl | (simp; done) | (simp [*]; done)), H', ⟨by first | omega | exact Nat.le_refl _⟩, ⟨zbk zajao⟩, ⟨zh1 HB zajau⟩⟩
 case rest =>
  clear HC2
  try clear c1
  try clear p2
  try clear c4
  try clear c4b0
  try clear zajbg
  try clear zajbh
  try clear zajbi
  try clear zajbj
  try clear zajbk
  try clear zajbq
  try clear zajbr
  try clear zajbs
  try clear zajbt
  try clear zajbu
  try clear zajbl
  try clear zajbm
  try clear zajbn
  try clear zajbo
  try clear zajbp
  try clear zajbv
  try clear zajbw
  try clear zajbx
  try clear zajby
  try clear zajbz
  obtain ⟨kq, zajbd, rfl, HA, HJ1, zajao, HB⟩ := hcut
  cases kq with
  | zero => exact absurd HA.out (by simp [stowageref13_Check.j0])
  | succ kj1 =>
   have H := HA.out
   clear HA
   simp only [stowageref13_Check.j0] at H
   by_cases c7 : zajbd = true
   ·subst c7
    have H1 : (some 1) = some r := by rw [if_pos rfl] at H; exact H
    clear H
    have H := H1
    clear H1
    obtain rfl := Option.some.inj H
    go_wp2
    go_ret
    exact ⟨by first | rfl | (simp [errW_none, errW_some] <;> rfl) | (simp [*, errW_none, errW_some] <;> rfl), zh1 HB zajau⟩
   ·replace c7 := Bool.eq_false_iff.mpr c7
    subst c7
    have H1 : ((stowageref13_Pieces.f kj1 l0_4).bind fun bt215 => (if a0_1 = true then (if a0_2 = 0 then (if a0_3.toList = ([] : List UInt8) then (stowageref13_Check.j1 kj1 bt215.1 bt215.2 ((l0_4.length : Int) != 0) a0_0 a0_1 a0_2 a0_3 l0_4) else (stowageref13_Check.j1 kj1 bt215.1 bt215.2 true a0_0 a0_1 a0_2 a0_3 l0_4)) else (stowageref13_Check.j1 kj1 bt215.1 bt215.2 true a0_0 a0_1 a0_2 a0_3 l0_4)) else (stowageref13_Check.j1 kj1 bt215.1 bt215.2 false a0_0 a0_1 a0_2 a0_3 l0_4))) = some r := by rw [if_neg (show ¬ (false = true) by decide)] at H; exact H
    clear H
    have H := H1
    clear H1
    replace H := Option.bind_eq_some_iff.mp H
    obtain ⟨⟨t215, t216⟩, A80, H⟩ := H
    replace H : (if a0_1 = true then (if a0_2 = 0 then (if a0_3.toList = ([] : List UInt8) then (stowageref13_Check.j1 kj1 t215 t216 ((l0_4.length : Int) != 0) a0_0 a0_1 a0_2 a0_3 l0_4) else (stowageref13_Check.j1 kj1 t215 t216 true a0_0 a0_1 a0_2 a0_3 l0_4)) else (stowageref13_Check.j1 kj1 t215 t216 true a0_0 a0_1 a0_2 a0_3 l0_4)) else (stowageref13_Check.j1 kj1 t215 t216 false a0_0 a0_1 a0_2 a0_3 l0_4)) = some r := H
    have A8 := zajan A80
    clear A80
    have HC9 := zajan H
    clear H
    have zajca : wc.cell? ⟨zajap, 0, none⟩ = some (.int .i64 a0_0) := (zajak zajao.out 0).trans rfl
    have zajcb : wc.cell? ⟨zajap, 1, none⟩ = some (.bool a0_1) := (zajak zajao.out 1).trans rfl
    have zajcc : wc.cell? ⟨zajap, 2, none⟩ = some (.int .i64 a0_2) := (zajak zajao.out 2).trans rfl
    have zajcd : wc.cell? ⟨zajap, 3, none⟩ = some (.string a0_3) := (zajak zajao.out 3).trans rfl
    have zajce : wc.cell? ⟨zajap, 4, none⟩ = some (.slice A0_4 l0_4.length c0_4) := (zajak zajao.out 4).trans rfl
    have zajcf := zajal zajao.out 0
    have zajcg := zajal zajao.out 1
    have zajch := zajal zajao.out 2
    have zajci := zajal zajao.out 3
    have zajcj := zajal zajao.out 4
    go_upto_region 4 with (first | ((with_reducible refine gate_callee (f := 10) rfl ?_); refine goesL_ (some 16) rfl rfl Try.func10 (by kernel_rfl) rfl #[.slice A0_4 l0_4.length c0_4] rfl (by (try simp only [List.map_toArray, List.map_cons, List.map_nil]); first | done | rfl) ?_; (with_reducible refine (stowageref13_Pieces.calls kj1 _ _ l0_4 t215 t216 _ ?side1 ?side2 A8.out).mono ?_); (case side1 => repeat (first | exact (Kd.C_below HR0_4.out HB.out) | (with_reducible refine Kd.C_alloc ?_ _) | (with_reducible refine Kd.C_drewN ?_ _) | (with_reducible refine Kd.C_drew ?_))); (case side2 => exact HC0_4.out); rintro e w11 ⟨rfl, hb⟩; refine ⟨_, rfl, ?_⟩; have n0_ := zbb zajao hb; have n1_ := zajan (below_step (zh1 HB zajau) hb); clear zajao; clear HB; have zajao := n0_; have HB := n1_; clear n0_ n1_; (try clear hb); (try clear hk); (try clear hi)))
    (try simp only [Act.put, zajaa, zajab, zajac])
    go_cut [36] (fun v36 wc => ∃ (kq : Nat) (zajbe : Bool), v36 = .bool zajbe ∧ Aside0 (stowageref13_Check.j1 kq t215 t216 zajbe a0_0 a0_1 a0_2 a0_3 l0_4 = some r) ∧ Aside0 (kq ≤ kj1) ∧ Aside0 (wc.heap[zajap]? = some (.cells #[.int .i64 a0_0, .bool a0_1, .int .i64 a0_2, .string a0_3, (.slice A0_4 l0_4.length c0_4)] 36 (0, 0))) ∧ Aside0 (Below w.heap.size w wc))
    case first =>
     have H := HC9.out
     clear HC9
     by_cases c12 : a0_1 = true
     ·subst c12
      have H1 : (if a0_2 = 0 then (if a0_3.toList = ([] : List UInt8) then (stowageref13_Check.j1 kj1 t215 t216 ((l0_4.length : Int) != 0) a0_0 true a0_2 a0_3 l0_4) else (stowageref13_Check.j1 kj1 t215 t216 true a0_0 true a0_2 a0_3 l0_4)) else (stowageref13_Check.j1 kj1 t215 t216 true a0_0 true a0_2 a0_3 l0_4)) = some r := by rw [if_pos rfl] at H; exact H
      clear H
      have H := H1
      clear H1
      by_cases c13 : a0_2 = 0
      ·rw [if_pos c13] at H
       have c13b0 : (a0_2 == 0) = true := beq_iff_eq.mpr c13
       have c13b1 : (a0_2 != 0) = false := bne_eq_false_iff_eq.mpr c13
       clear c13
       (first | rw [c13b0] | (simp only [i64_w, i32_w]; rw [c13b0]) | skip)
       by_cases c14 : a0_3.toList = ([] : List UInt8)
       ·rw [if_pos c14] at H
        have c14b0 : (a0_3.toList == ([] : List UInt8)) = true := beq_iff_eq.mpr c14
        have c14b1 : (a0_3.toList != ([] : List UInt8)) = false := bne_eq_false_iff_eq.mpr c14
        clear c14
        have H' := zajan H
        clear H
        have zajck : w11.cell? ⟨zajap, 0, none⟩ = some (.int .i64 a0_0) := (zajak zajao.out 0).trans rfl
        have zajcl : w11.cell? ⟨zajap, 1, none⟩ = some (.bool true) := (zajak zajao.out 1).trans rfl
        have zajcm : w11.cell? ⟨zajap, 2, none⟩ = some (.int .i64 a0_2) := (zajak zajao.out 2).trans rfl
        have zajcn : w11.cell? ⟨zajap, 3, none⟩ = some (.string a0_3) := (zajak zajao.out 3).trans rfl
        have zajco : w11.cell? ⟨zajap, 4, none⟩ = some (.slice A0_4 l0_4.length c0_4) := (zajak zajao.out 4).trans rfl
        have zajcp := zajal zajao.out 0
        have zajcq := zajal zajao.out 1
        have zajcr := zajal zajao.out 2
        have zajcs := zajal zajao.out 3
        have zajct := zajal zajao.out 4
        go_wp2
        go_meet
        case rel => exact ⟨_, (((l0_4.length : Int) != 0)), (by first | rfl | (simp; done) | (simp [*]; done)), H', ⟨by have := HJ1.out; first | omega | exact Nat.le_refl _⟩, ⟨zbk zajao⟩, ⟨zh1 HB zajau⟩⟩
       ·rw [if_neg c14] at H
        have c14b0 : (a0_3.toList == ([] : List UInt8)) = false := beq_eq_false_iff_ne.mpr c14
        have c14b1 : (a0_3.toList != ([] : List UInt8)) = true := bne_iff_ne.mpr c14
        have H' := zajan H
        clear H
        have zajcu : w11.cell? ⟨zajap, 0, none⟩ = some (.int .i64 a0_0) := (zajak zajao.out 0).trans rfl
        have zajcv : w11.cell? ⟨zajap, 1, none⟩ = some (.bool true) := (zajak zajao.out 1).trans rfl
        have zajcw : w11.cell? ⟨zajap, 2, none⟩ = some (.int .i64 a0_2) := (zajak zajao.out 2).trans rfl
        have zajcx : w11.cell? ⟨zajap, 3, none⟩ = some (.string a0_3) := (zajak zajao.out 3).trans rfl
        have zajcy : w11.cell? ⟨zajap, 4, none⟩ = some (.slice A0_4 l0_4.length c0_4) := (zajak zajao.out 4).trans rfl
        have zajcz := zajal zajao.out 0
        have zajda := zajal zajao.out 1
        have zajdb := zajal zajao.out 2
        have zajdc := zajal zajao.out 3
        have zajdd := zajal zajao.out 4
        go_wp2
        go_meet
        case rel => exact ⟨_, (true), (by first | rfl | (simp; done) | (simp [*]; done)), H', ⟨by have := HJ1.out; first | omega | exact Nat.le_refl _⟩, ⟨zbk zajao⟩, ⟨zh1 HB zajau⟩⟩
      ·rw [if_neg c13] at H
       have c13b0 : (a0_2 == 0) = false := beq_eq_false_iff_ne.mpr c13
       have c13b1 : (a0_2 != 0) = true := bne_iff_ne.mpr c13
       (first | rw [c13b0] | (simp only [i64_w, i32_w]; rw [c13b0]) | skip)
       have H' := zajan H
       clear H
       have zajde : w11.cell? ⟨zajap, 0, none⟩ = some (.int .i64 a0_0) := (zajak zajao.out 0).trans rfl
       have zajdf : w11.cell? ⟨zajap, 1, none⟩ = some (.bool true) := (zajak zajao.out 1).trans rfl
       have zajdg : w11.cell? ⟨zajap, 2, none⟩ = some (.int .i64 a0_2) := (zajak zajao.out 2).trans rfl
       have zajdh : w11.cell? ⟨zajap, 3, none⟩ = some (.string a0_3) := (zajak zajao.out 3).trans rfl
       have zajdi : w11.cell? ⟨zajap, 4, none⟩ = some (.slice A0_4 l0_4.length c0_4) := (zajak zajao.out 4).trans rfl
       have zajdj := zajal zajao.out 0
       have zajdk := zajal zajao.out 1
       have zajdl := zajal zajao.out 2
       have zajdm := zajal zajao.out 3
       have zajdn := zajal zajao.out 4
       go_wp2
       go_meet
       case rel => exact ⟨_, (true), (by first | rfl | (simp; done) | (simp [*]; done)), H', ⟨by have := HJ1.out; first | omega | exact Nat.le_refl _⟩, ⟨zbk zajao⟩, ⟨zh1 HB zajau⟩⟩
     ·replace c12 := Bool.eq_false_iff.mpr c12
      subst c12
      have H1 : (stowageref13_Check.j1 kj1 t215 t216 false a0_0 false a0_2 a0_3 l0_4) = some r := by rw [if_neg (show ¬ (false = true) by decide)] at H; exact H
      clear H
      have H := H1
      clear H1
      have H' := zajan H
      clear H
      have zajdo : w11.cell? ⟨zajap, 0, none⟩ = some (.int .i64 a0_0) := (zajak zajao.out 0).trans rfl
      have zajdp : w11.cell? ⟨zajap, 1, none⟩ = some (.bool false) := (zajak zajao.out 1).trans rfl
      have zajdq : w11.cell? ⟨zajap, 2, none⟩ = some (.int .i64 a0_2) := (zajak zajao.out 2).trans rfl
      have zajdr : w11.cell? ⟨zajap, 3, none⟩ = some (.string a0_3) := (zajak zajao.out 3).trans rfl
      have zajds : w11.cell? ⟨zajap, 4, none⟩ = some (.slice A0_4 l0_4.length c0_4) := (zajak zajao.out 4).trans rfl
      have zajdt := zajal zajao.out 0
      have zajdu := zajal zajao.out 1
      have zajdv := zajal zajao.out 2
      have zajdw := zajal zajao.out 3
      have zajdx := zajal zajao.out 4
      go_wp2
      go_meet
      case rel => exact ⟨_, (false), (by first | rfl | (simp; done) | (simp [*]; done)), H', ⟨by have := HJ1.out; first | omega | exact Nat.le_refl _⟩, ⟨zbk zajao⟩, ⟨zh1 HB zajau⟩⟩
    case rest =>
     clear HC9
     try clear c1
     try clear p2
     try clear c4
     try clear c4b0
     try clear p6
     try clear c7
     try clear c10
     try clear c12
     try clear c13
     try clear c13b0
     try clear c13b1
     try clear c14
     try clear c14b0
     try clear c14b1
     try clear zajca
     try clear zajcb
     try clear zajcc
     try clear zajcd
     try clear zajce
     try clear zajck
     try clear zajcl
     try clear zajcm
     try clear zajcn
     try clear zajco
     try clear zajcu
     try clear zajcv
     try clear zajcw
     try clear zajcx
     try clear zajcy
     try clear zajde
     try clear zajdf
     try clear zajdg
     try clear zajdh
     try clear zajdi
     try clear zajdo
     try clear zajdp
     try clear zajdq
     try clear zajdr
     try clear zajds
     try clear zajbg
     try clear zajbh
     try clear zajbi
     try clear zajbj
     try clear zajbk
     try clear zajbq
     try clear zajbr
     try clear zajbs
     try clear zajbt
     try clear zajbu
     try clear zajcf
     try clear zajcg
     try clear zajch
     try clear zajci
     try clear zajcj
     try clear zajcp
     try clear zajcq
     try clear zajcr
     try clear zajcs
     try clear zajct
     try clear zajcz
     try clear zajda
     try clear zajdb
     try clear zajdc
     try clear zajdd
     try clear zajdj
     try clear zajdk
     try clear zajdl
     try clear zajdm
     try clear zajdn
     try clear zajdt
     try clear zajdu
     try clear zajdv
     try clear zajdw
     try clear zajdx
     try clear zajbl
     try clear zajbm
     try clear zajbn
     try clear zajbo
     try clear zajbp
     try clear zajbv
     try clear zajbw
     try clear zajbx
     try clear zajby
     try clear zajbz
     try clear p2
     obtain ⟨kq, zajbe, rfl, HA, HJ8, zajao, HB⟩ := hcut
     cases kq with
     | zero => exact absurd HA.out (by simp [stowageref13_Check.j1])
     | succ kj8 =>
      have H := HA.out
      clear HA
      simp only [stowageref13_Check.j1] at H
      by_cases c19 : zajbe = true
      ·subst c19
       have H1 : (some 1) = some r := by rw [if_pos rfl] at H; exact H
       clear H
       have H := H1
       clear H1
       obtain rfl := Option.some.inj H
       go_wp2
       go_ret
       exact ⟨by first | rfl | (simp [errW_none, errW_some] <;> rfl) | (simp [*, errW_none, errW_some] <;> rfl), zh1 HB zajau⟩
      ·replace c19 := Bool.eq_false_iff.mpr c19
       subst c19
       have H1 : (if a0_1 = true then (some 0) else (if t216 = 0 then (if t215 = a0_2 then (if t215 > 1048576 then (some 1) else ((stowageref06_May.f kj8 a0_3).bind fun t217 => (if t217 = true then (some 0) else (some 1)))) else (some 1)) else (some 1))) = some r := by rw [if_neg (show ¬ (false = true) by decide)] at H; exact H
       clear H
       have H := H1
       clear H1
       by_cases c20 : a0_1 = true
       ·subst c20
        have H1 : (some 0) = some r := by rw [if_pos rfl] at H; exact H
        clear H
        have H := H1
        clear H1
        obtain rfl := Option.some.inj H
        have zajdy : wc.cell? ⟨zajap, 0, none⟩ = some (.int .i64 a0_0) := (zajak zajao.out 0).trans rfl
        have zajdz : wc.cell? ⟨zajap, 1, none⟩ = some (.bool true) := (zajak zajao.out 1).trans rfl
        have zajea : wc.cell? ⟨zajap, 2, none⟩ = some (.int .i64 a0_2) := (zajak zajao.out 2).trans rfl
        have zajeb : wc.cell? ⟨zajap, 3, none⟩ = some (.string a0_3) := (zajak zajao.out 3).trans rfl
        have zajec : wc.cell? ⟨zajap, 4, none⟩ = some (.slice A0_4 l0_4.length c0_4) := (zajak zajao.out 4).trans rfl
        have zajed := zajal zajao.out 0
        have zajee := zajal zajao.out 1
        have zajef := zajal zajao.out 2
        have zajeg := zajal zajao.out 3
        have zajeh := zajal zajao.out 4
        go_wp2
        go_ret
        exact ⟨by first | rfl | (simp [errW_none, errW_some] <;> rfl) | (simp [*, errW_none, errW_some] <;> rfl), zh1 HB zajau⟩
       ·replace c20 := Bool.eq_false_iff.mpr c20
        subst c20
        have H1 : (if t216 = 0 then (if t215 = a0_2 then (if t215 > 1048576 then (some 1) else ((stowageref06_May.f kj8 a0_3).bind fun t217 => (if t217 = true then (some 0) else (some 1)))) else (some 1)) else (some 1)) = some r := by rw [if_neg (show ¬ (false = true) by decide)] at H; exact H
        clear H
        have H := H1
        clear H1
        by_cases c22 : t216 = 0
        ·rw [if_pos c22] at H
         have c22b0 : (t216 == 0) = true := beq_iff_eq.mpr c22
         have c22b1 : (t216 != 0) = false := bne_eq_false_iff_eq.mpr c22
         clear c22
         by_cases c23 : t215 = a0_2
         ·rw [if_pos c23] at H
          have c23b0 : (t215 == a0_2) = true := beq_iff_eq.mpr c23
          have c23b1 : (t215 != a0_2) = false := bne_eq_false_iff_eq.mpr c23
          clear c23
          by_cases c24 : t215 > 1048576
          ·rw [if_pos c24] at H
           have c24b0 : decide (1048576 < t215) = true := decide_eq_true c24
           clear c24
           obtain rfl := Option.some.inj H
           have zajei : wc.cell? ⟨zajap, 0, none⟩ = some (.int .i64 a0_0) := (zajak zajao.out 0).trans rfl
           have zajej : wc.cell? ⟨zajap, 1, none⟩ = some (.bool false) := (zajak zajao.out 1).trans rfl
           have zajek : wc.cell? ⟨zajap, 2, none⟩ = some (.int .i64 a0_2) := (zajak zajao.out 2).trans rfl
           have zajel : wc.cell? ⟨zajap, 3, none⟩ = some (.string a0_3) := (zajak zajao.out 3).trans rfl
           have zajem : wc.cell? ⟨zajap, 4, none⟩ = some (.slice A0_4 l0_4.length c0_4) := (zajak zajao.out 4).trans rfl
           have zajen := zajal zajao.out 0
           have zajeo := zajal zajao.out 1
           have zajep := zajal zajao.out 2
           have zajeq := zajal zajao.out 3
           have zajer := zajal zajao.out 4
           go_wp2
           go_ret
           exact ⟨by first | rfl | (simp [errW_none, errW_some] <;> rfl) | (simp [*, errW_none, errW_some] <;> rfl), zh1 HB zajau⟩
          ·rw [if_neg c24] at H
           have c24b0 : decide (1048576 < t215) = false := decide_eq_false c24
           clear c24
           replace H := Option.bind_eq_some_iff.mp H
           obtain ⟨t217, A260, H⟩ := H
           replace H : (if t217 = true then (some 0) else (some 1)) = some r := H
           have A26 := zajan A260
           clear A260
           by_cases c27 : t217 = true
           ·subst c27
            have H1 : (some 0) = some r := by rw [if_pos rfl] at H; exact H
            clear H
            have H := H1
            clear H1
            obtain rfl := Option.some.inj H
            have zajes : wc.cell? ⟨zajap, 0, none⟩ = some (.int .i64 a0_0) := (zajak zajao.out 0).trans rfl
            have zajet : wc.cell? ⟨zajap, 1, none⟩ = some (.bool false) := (zajak zajao.out 1).trans rfl
            have zajeu : wc.cell? ⟨zajap, 2, none⟩ = some (.int .i64 a0_2) := (zajak zajao.out 2).trans rfl
            have zajev : wc.cell? ⟨zajap, 3, none⟩ = some (.string a0_3) := (zajak zajao.out 3).trans rfl
            have zajew : wc.cell? ⟨zajap, 4, none⟩ = some (.slice A0_4 l0_4.length c0_4) := (zajak zajao.out 4).trans rfl
            have zajex := zajal zajao.out 0
            have zajey := zajal zajao.out 1
            have zajez := zajal zajao.out 2
            have zajfa := zajal zajao.out 3
            have zajfb := zajal zajao.out 4
            go_wp2_with (first | (go_at_call 35; (with_reducible refine (stowageref06_May.calls kj8 a0_3 true _ A26.out).mono ?_); rintro e w29 ⟨rfl, hb⟩; have n0_ := zbb zajao hb; have n1_ := zajan (below_step (zh1 HB zajau) hb); clear zajao; clear HB; have zajao := n0_; have HB := n1_; clear n0_ n1_; (try clear hb); (try clear hk); (try clear hi)))
            go_ret
            exact ⟨by first | rfl | (simp [errW_none, errW_some] <;> rfl) | (simp [*, errW_none, errW_some] <;> rfl), zh1 HB zajau⟩
           ·replace c27 := Bool.eq_false_iff.mpr c27
            subst c27
            have H1 : (some 1) = some r := by rw [if_neg (show ¬ (false = true) by decide)] at H; exact H
            clear H
            have H := H1
            clear H1
            obtain rfl := Option.some.inj H
            have zajfc : wc.cell? ⟨zajap, 0, none⟩ = some (.int .i64 a0_0) := (zajak zajao.out 0).trans rfl
            have zajfd : wc.cell? ⟨zajap, 1, none⟩ = some (.bool false) := (zajak zajao.out 1).trans rfl
            have zajfe : wc.cell? ⟨zajap, 2, none⟩ = some (.int .i64 a0_2) := (zajak zajao.out 2).trans rfl
            have zajff : wc.cell? ⟨zajap, 3, none⟩ = some (.string a0_3) := (zajak zajao.out 3).trans rfl
            have zajfg : wc.cell? ⟨zajap, 4, none⟩ = some (.slice A0_4 l0_4.length c0_4) := (zajak zajao.out 4).trans rfl
            have zajfh := zajal zajao.out 0
            have zajfi := zajal zajao.out 1
            have zajfj := zajal zajao.out 2
            have zajfk := zajal zajao.out 3
            have zajfl := zajal zajao.out 4
            go_wp2_with (first | (go_at_call 35; (with_reducible refine (stowageref06_May.calls kj8 a0_3 false _ A26.out).mono ?_); rintro e w31 ⟨rfl, hb⟩; have n0_ := zbb zajao hb; have n1_ := zajan (below_step (zh1 HB zajau) hb); clear zajao; clear HB; have zajao := n0_; have HB := n1_; clear n0_ n1_; (try clear hb); (try clear hk); (try clear hi)))
            go_ret
            exact ⟨by first | rfl | (simp [errW_none, errW_some] <;> rfl) | (simp [*, errW_none, errW_some] <;> rfl), zh1 HB zajau⟩
         ·rw [if_neg c23] at H
          have c23b0 : (t215 == a0_2) = false := beq_eq_false_iff_ne.mpr c23
          have c23b1 : (t215 != a0_2) = true := bne_iff_ne.mpr c23
          obtain rfl := Option.some.inj H
          have zajfm : wc.cell? ⟨zajap, 0, none⟩ = some (.int .i64 a0_0) := (zajak zajao.out 0).trans rfl
          have zajfn : wc.cell? ⟨zajap, 1, none⟩ = some (.bool false) := (zajak zajao.out 1).trans rfl
          have zajfo : wc.cell? ⟨zajap, 2, none⟩ = some (.int .i64 a0_2) := (zajak zajao.out 2).trans rfl
          have zajfp : wc.cell? ⟨zajap, 3, none⟩ = some (.string a0_3) := (zajak zajao.out 3).trans rfl
          have zajfq : wc.cell? ⟨zajap, 4, none⟩ = some (.slice A0_4 l0_4.length c0_4) := (zajak zajao.out 4).trans rfl
          have zajfr := zajal zajao.out 0
          have zajfs := zajal zajao.out 1
          have zajft := zajal zajao.out 2
          have zajfu := zajal zajao.out 3
          have zajfv := zajal zajao.out 4
          go_wp2
          go_ret
          exact ⟨by first | rfl | (simp [errW_none, errW_some] <;> rfl) | (simp [*, errW_none, errW_some] <;> rfl), zh1 HB zajau⟩
        ·rw [if_neg c22] at H
         have c22b0 : (t216 == 0) = false := beq_eq_false_iff_ne.mpr c22
         have c22b1 : (t216 != 0) = true := bne_iff_ne.mpr c22
         obtain rfl := Option.some.inj H
         have zajfw : wc.cell? ⟨zajap, 0, none⟩ = some (.int .i64 a0_0) := (zajak zajao.out 0).trans rfl
         have zajfx : wc.cell? ⟨zajap, 1, none⟩ = some (.bool false) := (zajak zajao.out 1).trans rfl
         have zajfy : wc.cell? ⟨zajap, 2, none⟩ = some (.int .i64 a0_2) := (zajak zajao.out 2).trans rfl
         have zajfz : wc.cell? ⟨zajap, 3, none⟩ = some (.string a0_3) := (zajak zajao.out 3).trans rfl
         have zajga : wc.cell? ⟨zajap, 4, none⟩ = some (.slice A0_4 l0_4.length c0_4) := (zajak zajao.out 4).trans rfl
         have zajgb := zajal zajao.out 0
         have zajgc := zajal zajao.out 1
         have zajgd := zajal zajao.out 2
         have zajge := zajal zajao.out 3
         have zajgf := zajal zajao.out 4
         go_wp2
         go_ret
         exact ⟨by first | rfl | (simp [errW_none, errW_some] <;> rfl) | (simp [*, errW_none, errW_some] <;> rfl), zh1 HB zajau⟩

/-! ### stowagelaw13_Ref: function 15 -/
def stowagelaw13_Ref.f (k : Nat) (a0_0 : Int) (a0_1 : Bool) (a0_2 : Int) (a0_3 : ByteArray) (l0_4 : List (S72)) : Option (Int × Bool × Int × ByteArray × (List (S74))) := (stowagelaw13_Piece.f k l0_4).bind fun t220 => (some (a0_0, a0_1, a0_2, a0_3, t220))
def stowagelaw13_Ref.T1 : Bool × List (List Nat × List Nat) := (true, [([], []), ([0], [0]), ([], []), ([2], [2]), ([], []), ([4], [4]), ([], []), ([6], [6]), ([], []), ([8], [8]), ([9], [9]), ([1, 3, 5, 7, 10], [1, 3, 5, 7, 10]), ([11, 10, 0, 1, 2, 3, 4, 5, 6, 7, 8, 9, 10, 11], [11])])
def stowagelaw13_Ref.B1 : List Nat := [0, 1, 0, 4, 0, 16, 0, 64, 0, 256, 768, 2047, 4095]
theorem stowagelaw13_Ref.tab1 : rtab .any (opsOf Try.f15 1) = stowagelaw13_Ref.T1 := by kernel_rfl
theorem stowagelaw13_Ref.bits1 : waitsOk stowagelaw13_Ref.T1.2 stowagelaw13_Ref.B1 = true := by kernel_rfl
set_option maxHeartbeats 8000000 in
set_option maxRecDepth 100000 in
theorem stowagelaw13_Ref.calls (k : Nat) (a0_0 : Int) (a0_1 : Bool) (a0_2 : Int) (a0_3 : ByteArray) (A0_4 : Option Addr) (c0_4 : Nat) (l0_4 : List (S72)) (r1 : Int) (r2 : Bool) (r3 : Int) (r4 : ByteArray) (r5 : List (S74)) (w : World) (hr0_4 : Kd.C k72 w A0_4 l0_4.length l0_4) (hc0_4 : l0_4.length ≤ c0_4) (h : stowagelaw13_Ref.f k a0_0 a0_1 a0_2 a0_3 l0_4 = some (r1, r2, r3, r4, r5)) :
  Calls Try.prog 15 #[.agg #[.int .i64 a0_0, .bool a0_1, .int .i64 a0_2, .string a0_3, .slice A0_4 l0_4.length c0_4]] w fun e w' => ∃ v4_ : Value, e = .returned (.agg #[.int .i64 r1, .bool r2, .int .i64 r3, .string r4, v4_]) ∧ Kd.R k74 74 w' w.heap.size (fun _ => True) v4_ r5 ∧ Below w.heap.size w w' := by
 have hu24 := Try.underlying24
 have hu36 := Try.underlying36
 have HR0_4 := zajan hr0_4
 have HC0_4 := zajan hc0_4
 clear hr0_4 hc0_4
 have HB := zajan (Below.refl w.heap.size w)
 have H : ((stowagelaw13_Piece.f k l0_4).bind fun t220 => (some (a0_0, a0_1, a0_2, a0_3, t220))) = some (r1, r2, r3, r4, r5) := h
 clear h
 replace H := Option.bind_eq_some_iff.mp H
 obtain ⟨t220, A20, H⟩ := H
 replace H : (some (a0_0, a0_1, a0_2, a0_3, t220)) = some (r1, r2, r3, r4, r5) := H
 have A2 := zajan A20
 clear A20
 simp only [Option.some.injEq, Prod.mk.injEq] at H
 obtain ⟨rfl, rfl, rfl, rfl, rfl⟩ := H
 go_enter Try.func15, Try.ntmps15
 try go_wp2_with (first | ((with_reducible refine gate_dst (N := 1) rfl ?_); refine box_event ?hg (N := 1) ?hd (cs := #[.int .i64 a0_0, .bool a0_1, .int .i64 a0_2, .string a0_3, .slice A0_4 l0_4.length c0_4]) (t := 24) ?hr ?_; (case hd => rfl); (case hg => rfl); (case hr => first | (go_simp; done) | (go_simp; rfl)); intro zajav hg w3 hbox hb; have n0_ := zajan (below_step (zh0 HB) hb); have n1_ := zajan (hbox); have n2_ := zns hg (zh0 HB); have n3_ := zns hg (zh0 HB); clear HB; have HB := n0_; have zajas := n1_; have zajgh := n2_; have zajbc := n3_; clear n0_ n1_ n2_ n3_; clear hb hbox hg) | ((with_reducible refine gate_dst (N := 2) rfl ?_); refine box_event ?hg (N := 2) ?hd (cs := #[.int .i64 0, .bool false, .int .i64 0, .string (⟨#[]⟩ : ByteArray), .slice none 0 0]) (t := 36) ?hr ?_; (case hd => rfl); (case hg => rfl); (case hr => first | (go_simp; done) | (go_simp; rfl)); intro zajar hg w4 hbox hb; have n0_ := zbb zajas hb; have n1_ := zajan (below_step (zh1 HB zajbc) hb); have n2_ := zajan (hbox); have n3_ := zns hg (zh1 HB zajbc); have n4_ := zns hg (zh1 HB zajbc); have n5_ := zajan ((by rw [hg]; exact Nat.ne_of_lt (blk_lt (g := zajav) (o := .cells #[.int .i64 a0_0, .bool a0_1, .int .i64 a0_2, .string a0_3, .slice A0_4 l0_4.length c0_4] 24 (0, 0)) (zbk zajas)) : zajav ≠ zajar)); have n6_ := zajan ((by rw [hg]; exact Nat.ne_of_gt (blk_lt (g := zajav) (o := .cells #[.int .i64 a0_0, .bool a0_1, .int .i64 a0_2, .string a0_3, .slice A0_4 l0_4.length c0_4] 24 (0, 0)) (zbk zajas)) : zajar ≠ zajav)); clear zajas; clear HB; have zajas := n0_; have HB := n1_; have zajat := n2_; have zajgi := n3_; have zajbf := n4_; have zajaq := n5_; have zajba := n6_; clear n0_ n1_ n2_ n3_ n4_ n5_ n6_; clear hb hbox hg))
 have n0_ := zajan (zajaf zajas.out)
 have n1_ := zajan (zajaf zajat.out)
 have n2_ := zajan (zajai HB.out)
 clear zajas
 clear zajat
 clear HB
 have zajas := n0_
 have zajat := n1_
 have HB := n2_
 clear n0_ n1_ n2_
 refine start_ (n := 13) (S := fun w' => w'.cell? ⟨zajav, 0, none⟩ = some (.int .i64 a0_0) ∧ w'.cell? ⟨zajav, 1, none⟩ = some (.bool a0_1) ∧ w'.cell? ⟨zajav, 2, none⟩ = some (.int .i64 a0_2) ∧ w'.cell? ⟨zajav, 3, none⟩ = some (.string a0_3) ∧ w'.cell? ⟨zajav, 4, none⟩ = some (.slice A0_4 l0_4.length c0_4)) (ds := []) zajsq0 (by kernel_rfl) rfl rfl ⟨(zajak zajas.out 0).trans rfl, (zajak zajas.out 1).trans rfl, (zajak zajas.out 2).trans rfl, (zajak zajas.out 3).trans rfl, (zajak zajas.out 4).trans rfl⟩ (fun hHeld => ?_); refine with_tabW stowagelaw13_Ref.tab1 stowagelaw13_Ref.bits1 (fun HT_ HW_ => ?_)
 generalize w4.drew = w5 at zajas zajat HB hHeld ⊢
 refine pure_ (i := 0) (N := some 3) (v := ?_) (a' := ?_) zajsq1 rfl rfl (any_of HT_.out (by kernel_rfl)) (fun _ _ _ h => h) (Or.inl ⟨by rfl, ?_⟩) ?_ ?_
 rotate_left
 ·intro w'
  go_simp
  with_reducible rfl
 rotate_left
 ·simp only [Act.put, zajaa, zajab, zajac, i64_w, i32_w]
  rfl
 refine pure_ (i := 2) (N := some 5) (v := ?_) (a' := ?_) zajsq2 rfl rfl (any_of HT_.out (by kernel_rfl)) (fun _ _ _ h => h) (Or.inl ⟨by rfl, ?_⟩) ?_ ?_
 rotate_left
 ·intro w'
  go_simp
  with_reducible rfl
 rotate_left
 ·simp only [Act.put, zajaa, zajab, zajac, i64_w, i32_w]
  rfl
 refine pure_ (i := 4) (N := some 7) (v := ?_) (a' := ?_) zajsq3 rfl rfl (any_of HT_.out (by kernel_rfl)) (fun _ _ _ h => h) (Or.inl ⟨by rfl, ?_⟩) ?_ ?_
 rotate_left
 ·intro w'
  go_simp
  with_reducible rfl
 rotate_left
 ·simp only [Act.put, zajaa, zajab, zajac, i64_w, i32_w]
  rfl
 refine pure_ (i := 6) (N := some 9) (v := ?_) (a' := ?_) zajsq4 rfl rfl (any_of HT_.out (by kernel_rfl)) (fun _ _ _ h => h) (Or.inl ⟨by rfl, ?_⟩) ?_ ?_
 rotate_left
 ·intro w'
  go_simp
  with_reducible rfl
 rotate_left
 ·simp only [Act.put, zajaa, zajab, zajac, i64_w, i32_w]
  rfl
 refine pure_ (i := 8) (N := some 11) (v := ?_) (a' := ?_) zajsq5 rfl rfl (any_of HT_.out (by kernel_rfl)) (fun _ _ _ h => h) (Or.inl ⟨by rfl, ?_⟩) ?_ ?_
 rotate_left
 ·intro w'
  go_simp
  with_reducible rfl
 rotate_left
 ·simp only [Act.put, zajaa, zajab, zajac, i64_w, i32_w]
  rfl
 refine take_ (i := 1) (N := some 4) (v := ?_) (a' := ?_) zajsq6 rfl rfl (take_ofW HT_.out HW_.out (by kernel_rfl)) (fun _ _ _ h => h) (Or.inl ⟨by rfl, ?_⟩) hHeld ?_ ?_
 rotate_left
 ·rintro w' ⟨s0, s1, s2, s3, s4⟩
  go_simp
  with_reducible rfl
 rotate_left
 ·simp only [Act.put, zajaa, zajab, zajac, i64_w, i32_w]
  rfl
 refine take_ (i := 3) (N := some 6) (v := ?_) (a' := ?_) zajsq7 rfl rfl (take_ofW HT_.out HW_.out (by kernel_rfl)) (fun _ _ _ h => h) (Or.inl ⟨by rfl, ?_⟩) hHeld ?_ ?_
 rotate_left
 ·rintro w' ⟨s0, s1, s2, s3, s4⟩
  go_simp
  with_reducible rfl
 rotate_left
 ·simp only [Act.put, zajaa, zajab, zajac, i64_w, i32_w]
  rfl
 refine take_ (i := 5) (N := some 8) (v := ?_) (a' := ?_) zajsq8 rfl rfl (take_ofW HT_.out HW_.out (by kernel_rfl)) (fun _ _ _ h => h) (Or.inl ⟨by rfl, ?_⟩) hHeld ?_ ?_
 rotate_left
 ·rintro w' ⟨s0, s1, s2, s3, s4⟩
  go_simp
  with_reducible rfl
 rotate_left
 ·simp only [Act.put, zajaa, zajab, zajac, i64_w, i32_w]
  rfl
 refine take_ (i := 7) (N := some 10) (v := ?_) (a' := ?_) zajsq9 rfl rfl (take_ofW HT_.out HW_.out (by kernel_rfl)) (fun _ _ _ h => h) (Or.inl ⟨by rfl, ?_⟩) hHeld ?_ ?_
 rotate_left
 ·rintro w' ⟨s0, s1, s2, s3, s4⟩
  go_simp
  with_reducible rfl
 rotate_left
 ·simp only [Act.put, zajaa, zajab, zajac, i64_w, i32_w]
  rfl
 refine take_ (i := 9) (N := some 12) (v := ?_) (a' := ?_) zajsq10 rfl rfl (take_ofW HT_.out HW_.out (by kernel_rfl)) (fun _ _ _ h => h) (Or.inl ⟨by rfl, ?_⟩) hHeld ?_ ?_
 rotate_left
 ·rintro w' ⟨s0, s1, s2, s3, s4⟩
  go_simp
  with_reducible rfl
 rotate_left
 ·simp only [Act.put, zajaa, zajab, zajac, i64_w, i32_w]
  rfl
 refine one_ (i := 10) (N := some 13) zajsq11 rfl rfl (one_of HT_.out (by kernel_rfl)) (by decide) (fun K hK => ?_)
 refine goes_ Try.func11 (by kernel_rfl) rfl #[.slice A0_4 l0_4.length c0_4] (by rfl) rfl rfl (by (try simp only [List.map_toArray, List.map_cons, List.map_nil]); first | done | rfl) ?_
 with_reducible refine (stowagelaw13_Piece.calls k _ _ l0_4 t220 _ ?side1 ?side2 A2.out).mono ?_
 (case side1 => repeat (first | exact (Kd.C_below HR0_4.out HB.out) | (with_reducible refine Kd.C_alloc ?_ _) | (with_reducible refine Kd.C_drewN ?_ _) | (with_reducible refine Kd.C_drew ?_)))
 (case side2 => exact HC0_4.out)
 rintro e w6 ⟨v221, rfl, ho0, hb⟩
 refine ⟨_, rfl, ?_⟩
 have n0_ := zajan (Kd.R_lower ho0 (below_size (zh2 HB zajbc zajbf)))
 have n1_ := zbb zajas hb
 have n2_ := zbb zajat hb
 have n3_ := zajan (below_step (zh2 HB zajbc zajbf) hb)
 clear zajas
 clear zajat
 clear HB
 have HO222 := n0_
 have zajas := n1_
 have zajat := n2_
 have HB := n3_
 clear n0_ n1_ n2_ n3_
 (try clear hb)
 (try clear hb2)
 (try clear hk)
 (try clear hi)
 (try clear ho0)
 obtain ⟨Ao7, co7, eo7⟩ := Kd.R_slice HO222.out
 (first | subst eo7 | (injection eo7 with f1_ f2_ f3_; have f4_ := f1_.symm; have f5_ := f3_.symm; clear f1_ f2_ f3_; subst f4_; subst f5_))
 refine hK.out _ _ ⟨(zajak zajas.out 0).trans rfl, (zajak zajas.out 1).trans rfl, (zajak zajas.out 2).trans rfl, (zajak zajas.out 3).trans rfl, (zajak zajas.out 4).trans rfl⟩ (fun hHeld => ?_)
 clear hK K
 refine norm_ (a' := ?_) ?_ ?_
 rotate_left
 ·show Act.put _ (some 13) _ = _
  simp only [Act.put, zajaa, zajab, zajac, i64_w, i32_w]
  rfl
 refine pure_ (i := 11) (N := some 14) (v := ?_) (a' := ?_) zajsq12 rfl rfl (any_of HT_.out (by kernel_rfl)) (fun _ _ _ h => h) (Or.inl ⟨by rfl, ?_⟩) ?_ ?_
 rotate_left
 ·intro w'
  go_simp
  with_reducible rfl
 rotate_left
 ·simp only [Act.put, zajaa, zajab, zajac, i64_w, i32_w]
  rfl
 refine one_ (i := 12) (N := none) zajsq13 rfl rfl (one_of HT_.out (by kernel_rfl)) (by decide) (fun K hK => ?_)
 have hs8 : w6.cell? ⟨zajar, 0, none⟩ = some (.int .i64 0) := (zajak zajat.out 0).trans rfl
 have hfs8 := zajal zajat.out 0
 have hns8_0 := zajaq.out
 have hms8_0 := zajba.out
 have hs9 : w6.cell? ⟨zajar, 1, none⟩ = some (.bool false) := (zajak zajat.out 1).trans rfl
 have hfs9 := zajal zajat.out 1
 have hns9_0 := zajaq.out
 have hms9_0 := zajba.out
 have hs10 : w6.cell? ⟨zajar, 2, none⟩ = some (.int .i64 0) := (zajak zajat.out 2).trans rfl
 have hfs10 := zajal zajat.out 2
 have hns10_0 := zajaq.out
 have hms10_0 := zajba.out
 have hs11 : w6.cell? ⟨zajar, 3, none⟩ = some (.string (⟨#[]⟩ : ByteArray)) := (zajak zajat.out 3).trans rfl
 have hfs11 := zajal zajat.out 3
 have hns11_0 := zajaq.out
 have hms11_0 := zajba.out
 have hs12 : w6.cell? ⟨zajar, 4, none⟩ = some (.slice none 0 0) := (zajak zajat.out 4).trans rfl
 have hfs12 := zajal zajat.out 4
 have hns12_0 := zajaq.out
 have hms12_0 := zajba.out
 refine skip_ (w1 := ?_) (by rfl) rfl ?_ ?_
 rotate_left
 ·go_simp
  rfl
 refine hK.out _ _ ⟨((zajam (p := ⟨zajar, _, none⟩) zajaq.out _).trans (((zajam (p := ⟨zajar, _, none⟩) zajaq.out _).trans (((zajam (p := ⟨zajar, _, none⟩) zajaq.out _).trans (((zajam (p := ⟨zajar, _, none⟩) zajaq.out _).trans (((zajam (p := ⟨zajar, _, none⟩) zajaq.out _).trans (hHeld.1)))))))))), ((zajam (p := ⟨zajar, _, none⟩) zajaq.out _).trans (((zajam (p := ⟨zajar, _, none⟩) zajaq.out _).trans (((zajam (p := ⟨zajar, _, none⟩) zajaq.out _).trans (((zajam (p := ⟨zajar, _, none⟩) zajaq.out _).trans (((zajam (p := ⟨zajar, _, none⟩) zajaq.out _).trans (hHeld.2.1)))))))))), ((zajam (p := ⟨zajar, _, none⟩) zajaq.out _).trans (((zajam (p := ⟨zajar, _, none⟩) zajaq.out _).trans (((zajam (p := ⟨zajar, _, none⟩) zajaq.out _).trans (((zajam (p := ⟨zajar, _, none⟩) zajaq.out _).trans (((zajam (p := ⟨zajar, _, none⟩) zajaq.out _).trans (hHeld.2.2.1)))))))))), ((zajam (p := ⟨zajar, _, none⟩) zajaq.out _).trans (((zajam (p := ⟨zajar, _, none⟩) zajaq.out _).trans (((zajam (p := ⟨zajar, _, none⟩) zajaq.out _).trans (((zajam (p := ⟨zajar, _, none⟩) zajaq.out _).trans (((zajam (p := ⟨zajar, _, none⟩) zajaq.out _).trans (hHeld.2.2.2.1)))))))))), ((zajam (p := ⟨zajar, _, none⟩) zajaq.out _).trans (((zajam (p := ⟨zajar, _, none⟩) zajaq.out _).trans (((zajam (p := ⟨zajar, _, none⟩) zajaq.out _).trans (((zajam (p := ⟨zajar, _, none⟩) zajaq.out _).trans (((zajam (p := ⟨zajar, _, none⟩) zajaq.out _).trans (hHeld.2.2.2.2))))))))))⟩ (fun hHeld => ?_)
 clear hK K
 refine done_ (done_of HT_.out (by kernel_rfl)) ?_
 try go_wp2
 refine bodyPost_ret (results_cell_row rfl _ _ zajar 36 #[.int .i64 a0_0, .bool a0_1, .int .i64 a0_2, .string a0_3, .slice Ao7 t220.length co7] (0, 0) _ rfl (by (with_reducible repeat (first | refine zajad ?_ _ | refine zajaf ?_ | refine zajae ?_ _)); refine blk_put (cs := #[.int .i64 a0_0, .bool a0_1, .int .i64 a0_2, .string a0_3, .slice none 0 0]) ?_ 4 _ rfl; (with_reducible repeat (first | refine zajad ?_ _ | refine zajaf ?_ | refine zajae ?_ _)); refine blk_put (cs := #[.int .i64 a0_0, .bool a0_1, .int .i64 a0_2, .string (⟨#[]⟩ : ByteArray), .slice none 0 0]) ?_ 3 _ rfl; (with_reducible repeat (first | refine zajad ?_ _ | refine zajaf ?_ | refine zajae ?_ _)); refine blk_put (cs := #[.int .i64 a0_0, .bool a0_1, .int .i64 0, .string (⟨#[]⟩ : ByteArray), .slice none 0 0]) ?_ 2 _ rfl; (with_reducible repeat (first | refine zajad ?_ _ | refine zajaf ?_ | refine zajae ?_ _)); refine blk_put (cs := #[.int .i64 a0_0, .bool false, .int .i64 0, .string (⟨#[]⟩ : ByteArray), .slice none 0 0]) ?_ 1 _ rfl; (with_reducible repeat (first | refine zajad ?_ _ | refine zajaf ?_ | refine zajae ?_ _)); refine blk_put (cs := #[.int .i64 0, .bool false, .int .i64 0, .string (⟨#[]⟩ : ByteArray), .slice none 0 0]) ?_ 0 _ rfl; exact zbk zajat) Try.underlying36 rfl (by kernel_rfl)) rfl ?_
 exact ⟨_, by first | rfl | (simp [errW_none, errW_some] <;> rfl) | (simp [*, errW_none, errW_some] <;> rfl), by (with_reducible repeat (first | apply Kd.R_alloc | apply Kd.R_drewN | apply Kd.R_drew)); exact Kd.R_mono (Kd.R_far (p := ⟨zajar, 4, none⟩) (Kd.R_far (p := ⟨zajar, 3, none⟩) (Kd.R_far (p := ⟨zajar, 2, none⟩) (Kd.R_far (p := ⟨zajar, 1, none⟩) (Kd.R_far (p := ⟨zajar, 0, none⟩) (Kd.R_types HO222.out zajat.out (by decide)) (fun _ hk => hk.2) (.int .i64 a0_0)) (fun _ hk => hk.2) (.bool a0_1)) (fun _ hk => hk.2) (.int .i64 a0_2)) (fun _ hk => hk.2) (.string a0_3)) (fun _ hk => hk.2) (.slice Ao7 t220.length co7)) (fun _ hk => trivial), zh2 HB zajbc zajbf⟩

end Go.Proofs.Ytmpnaaegahjfkaa.Q