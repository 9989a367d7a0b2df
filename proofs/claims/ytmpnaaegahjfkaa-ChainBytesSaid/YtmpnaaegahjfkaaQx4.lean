

/- Written by a program of this session (wip/patch_print.py over the kit's print): functions of the given program as plain Lean functions, and that each call does what its function says, under no further conditions. -/
import Derived.Test.YtmpnaaegahjfkaaQx0
import Derived.Test.YtmpnaaegahjfkaaQx2
namespace Go.Proofs.Ytmpnaaegahjfkaa.Q
open Go.RowKit Go.Proofs.YtmpnaaegahjfkaaW.PrintWords Go.Proofs.YtmpnaaegahjfkaaW.PrintLast Go.Proofs.YtmpnaaegahjfkaaW.PrintMore
attribute [local go_sem] max2_int min2_int max_two min_two max_three min_three max_four min_four   -- for this text's walks alone
set_option linter.unusedVariables false
set_option linter.unusedSimpArgs false
attribute [local go_sem] xor_ones_u8 xor_ones_u16 xor_ones_u32 xor_ones_u64 cell_twice frozen_twice
abbrev zaeaa := @blk_drew
abbrev zaeab := @below_set
abbrev zaeac := @pw_below_drewN
abbrev zaead := @below_drew1
abbrev zaeae := @below_alloc
abbrev zaeaf := @blk_cell
abbrev zaeag := @blk_frozen
abbrev zaeah := @Aside0.mk
/-! ### stowagelaw13_Piece: function 11 -/
def stowagelaw13_Piece.l0 : Nat → List (S72) → List (S74) → Int → Option ((List (S74)))
 | 0, _, _, _ => none
 | k + 1, x0, x3, x4 => if x4 < (x0.length : Int) then (if 0 ≤ x4 then (if x3.length < 5864062014805 then (stowagelaw13_Piece.l0 k x0 (x3 ++ [(⟨(rd_T72 x0 x4).f0, (rd_T72 x0 x4).f1⟩ : S74)]) (wrap64 (x4 + 1))) else (none)) else (none)) else (some x3)
def stowagelaw13_Piece.f (k : Nat) (l0 : List (S72)) : Option ((List (S74))) := stowagelaw13_Piece.l0 k l0 ([] : List (S74)) 0
set_option maxHeartbeats 8000000 in
set_option maxRecDepth 100000 in
theorem stowagelaw13_Piece.calls (k : Nat) (A0 : Option Addr) (c0 : Nat) (l0 : List (S72)) (r : List (S74)) (w : World) (hr0 : Kd.C k72 w A0 l0.length l0) (hc0 : l0.length ≤ c0) (h : stowagelaw13_Piece.f k l0 = some r) :
  Calls Try.prog 11 #[.slice A0 l0.length c0] w fun e w' => ∃ v0_ : Value, e = .returned (v0_) ∧ Kd.R k74 74 w' w.heap.size (fun _ => True) v0_ r ∧ Below w.heap.size w w' := by
 have hu72 := Try.underlying72
 have HR0 := zaeah hr0
 have HC0 := zaeah hc0
 clear hr0 hc0
 have HB := zaeah (Below.refl w.heap.size w)
 have H : (stowagelaw13_Piece.l0 k l0 ([] : List (S74)) 0) = some r := h
 clear h
 have H' := zaeah H
 clear H
 go_enter Try.func11, Try.ntmps11
 go_wp2
 go_loopg [3, 4] k (fun kq v3 v4 w' => ∃ (zaeam : List (S74)) (zaeal : Int), v4 = .int .i64 zaeal ∧ Aside0 (stowagelaw13_Piece.l0 kq l0 zaeam zaeal = some r) ∧ Aside0 (kq ≤ k) ∧ Aside0 (Kd.R k74 74 w' w.heap.size (fun _ => True) v3 zaeam) ∧ Aside0 (Below w.heap.size w w'))
 case atStart => exact ⟨(([] : List (S74))), (0), (by first | rfl | (simp; done) | (simp [*]; done)), H', ⟨Nat.le_refl _⟩, ⟨by first | exact Kd.R_nil _ _ _ _ _ | exact Kd.N_nil _ _ _ _ _ | exact Kd.V_nil _ _ _ _ _ | exact Kd.Q_nil _ _ _ _ _ | exact Kd.S_nil _ _ _ _ _⟩, ⟨zh0 HB⟩⟩
 case round =>
  clear H'
  try clear c1
  obtain ⟨zaeam, zaeal, rfl, HA, HK1, HO_3, HB⟩ := hrel
  cases gk with
  | zero => exact absurd HA.out (by simp [stowagelaw13_Piece.l0])
  | succ k1 =>
   have H := HA.out
   clear HA
   simp only [stowagelaw13_Piece.l0] at H
   by_cases c2 : zaeal < (l0.length : Int)
   ·rw [if_pos c2] at H
    have c2b0 : decide (zaeal < (l0.length : Int)) = true := decide_eq_true c2
    clear c2
    by_cases c3 : 0 ≤ zaeal
    ·rw [if_pos c3] at H
     have c3b0 : decide (0 ≤ zaeal) = true := decide_eq_true c3
     clear c3
     by_cases c4 : zaeam.length < 5864062014805
     ·rw [if_pos c4] at H
      have LMc4 := zaeah c4
      clear c4
      obtain ⟨y115, hy115⟩ : ∃ y_ : List (S74), y_ = (zaeam ++ [(⟨(rd_T72 l0 zaeal).f0, (rd_T72 l0 zaeal).f1⟩ : S74)]) := ⟨_, rfl⟩
      replace H : (stowagelaw13_Piece.l0 k1 l0 y115 (wrap64 (zaeal + 1))) = some r := by first | (rw [hy115]; with_reducible exact H) | (have H2_ := (Option.bind_some _ _).symm.trans H; rw [hy115]; with_reducible exact H2_) | (have H2_ := (Option.bind_some _ _).symm.trans H; with_reducible exact H2_) | with_reducible exact H | (rw [hy115]; exact H) | exact H
      have Ny115 := zaeah hy115
      clear hy115
      have H' := zaeah H
      clear H
      have p114 : 0 ≤ (zaeal : Int) := of_decide_eq_true (by first | (with_reducible assumption) | assumption)
      have q114 : zaeal < (l0.length : Int) := of_decide_eq_true (by first | (with_reducible assumption) | assumption)
      obtain ⟨ad114, e114, hx114_0, hx114_1⟩ := at_T72 HR0.out zaeal p114 q114
      cases e114
      replace hx114_0 := (HB.out.cell (World.block_lt_of_cell? w _ hx114_0)).trans hx114_0
      replace hx114_1 := (HB.out.cell (World.block_lt_of_cell? w _ hx114_1)).trans hx114_1
      replace p114 := eq_true p114
      replace q114 := eq_true q114
      go_wp2_with (first | ((with_reducible refine gate_builtin (b := .append) (xs := #[.tmp 11, .tmp 16]) rfl ?_); at_builtin; refine Kd.R_append k74 (w0 := w) w.heap.size rfl (.tmp 11) (.tmp 16) 30 74 (.agg #[(.string ⟨#[]⟩), (.int .i64 0)]) 24 rfl Try.underlying30 info74 rfl (by decide) (by omega) u3 zaeam (⟨(rd_T72 l0 zaeal).f0, (rd_T72 l0 zaeal).f1⟩ : S74) [.string ((rd_T72 l0 zaeal).f0), .int .i64 ((rd_T72 l0 zaeal).f1)] (fun _ => True) (fun _ => False) rfl rfl ?aP (fun _ hk => hk.elim) ?aF ?aO ?aB ?aS ?aL ?_; (case aP => exact k74_mkM _ _ _ (⟨(rd_T72 l0 zaeal).f0, (rd_T72 l0 zaeal).f1⟩ : S74)); (case aB => exact (zh0 HB)); (case aF => exact (fun _ _ => trivial)); (case aO => exact (zrk HO_3)); (case aS => exact (below_size (zh0 HB))); (case aL => have := LMc4.out; omega); intro v116 w5 ho hb hg hat; rw [← Ny115.out] at ho; have n0_ := zaeah (hb); have n1_ := zaeah (ho); clear HB; clear HO_3; have HB := n0_; have HO117 := n1_; clear n0_ n1_; clear ho hb hg hat))
      go_roundg k1
      case measure => have := HK1.out; omega
      case rel => exact ⟨(y115), (wrap64 (zaeal + 1)), (by first | rfl | (simp; done) | (simp [*]; done)), H', ⟨by have := HK1.out; omega⟩, ⟨zrk HO117⟩, ⟨zh0 HB⟩⟩
     ·rw [if_neg c4] at H
      exact absurd H (by simp)
    ·rw [if_neg c3] at H
     exact absurd H (by simp)
   ·rw [if_neg c2] at H
    have c2b0 : decide (zaeal < (l0.length : Int)) = false := decide_eq_false c2
    clear c2
    obtain rfl := Option.some.inj H
    go_wp2
    go_ret
    exact ⟨_, by first | rfl | (simp [errW_none, errW_some] <;> rfl) | (simp [*, errW_none, errW_some] <;> rfl), by exact zrk HO_3, zh0 HB⟩

/-! ### chain_Check: function 13 -/
def chain_Check.j0 : Nat → Bool → Int → Bool → Int → ByteArray → List (S72) → Option (Int)
 | 0, _, _, _, _, _, _ => none
 | k + 1, x12, zaebm, zaear, zaeao, zaeap, zaeaq => if x12 = true then (some 1) else (if zaear = true then (if zaeao = 0 then (if zaeap.toList = ([] : List UInt8) then (if (zaeaq.length : Int) > 0 then (some 1) else (some 0)) else (some 1)) else (some 1)) else ((chain_Pieces.f k zaeaq).bind fun bt119 => (if bt119.2 = 0 then (if bt119.1 = zaeao then (if bt119.1 > 1048576 then (some 1) else ((chain_digits.f k zaeap).bind fun t121 => (if t121 = true then (some 0) else (some 1)))) else (some 1)) else (some 1))))
def chain_Check.f (k : Nat) (a0_0 : Int) (a0_1 : Bool) (a0_2 : Int) (a0_3 : ByteArray) (l0_4 : List (S72)) : Option (Int) := if a0_0 < 1 then (chain_Check.j0 k true a0_0 a0_1 a0_2 a0_3 l0_4) else (chain_Check.j0 k (decide (a0_0 > 1099511627776)) a0_0 a0_1 a0_2 a0_3 l0_4)
theorem chain_Check.mono_l : ∀ k, (∀ y0 y1 y2 y3 y4 y5, LeO (chain_Check.j0 k y0 y1 y2 y3 y4 y5) (chain_Check.j0 (k + 1) y0 y1 y2 y3 y4 y5))
 | 0 => fun _ _ _ _ _ _ r h => by simp [chain_Check.j0] at h
 | k + 1 => by
  have ih0 := chain_Check.mono_l k
  ·intro y0 y1 y2 y3 y4 y5
   unfold chain_Check.j0
   repeat' first
   | (with_reducible exact ih0 _ _ _ _ _ _)
   | (with_reducible exact chain_Pieces.mono _ _)
   | (with_reducible exact chain_digits.mono _ _)
   | (with_reducible exact LeO.refl _)
   | (with_reducible exact LeO.none _)
   | (with_reducible refine LeO.ite ?_ ?_)
   | (with_reducible refine LeO.bind ?_ (fun _ => ?_))
   | exact ih0 _ _ _ _ _ _
   | exact chain_Pieces.mono _ _
   | exact chain_digits.mono _ _
   | exact LeO.none _
   | refine LeO.ite ?_ ?_
   | refine LeO.bind ?_ (fun _ => ?_)
theorem chain_Check.mono : ∀ a0 a1 a2 a3 a4 k, LeO (chain_Check.f k a0 a1 a2 a3 a4) (chain_Check.f (k + 1) a0 a1 a2 a3 a4) := by
 intro a0 a1 a2 a3 a4 k
 have ih0 := chain_Check.mono_l k
 unfold chain_Check.f
 repeat' first
   | (with_reducible exact ih0 _ _ _ _ _ _)
   | (with_reducible exact chain_Pieces.mono _ _)
   | (with_reducible exact chain_digits.mono _ _)
   | (with_reducible exact LeO.refl _)
   | (with_reducible exact LeO.none _)
   | (with_reducible refine LeO.ite ?_ ?_)
   | (with_reducible refine LeO.bind ?_ (fun _ => ?_))
   | exact ih0 _ _ _ _ _ _
   | exact chain_Pieces.mono _ _
   | exact chain_digits.mono _ _
   | exact LeO.none _
   | refine LeO.ite ?_ ?_
   | refine LeO.bind ?_ (fun _ => ?_)
set_option maxHeartbeats 8000000 in
set_option maxRecDepth 100000 in
theorem chain_Check.calls (k : Nat) (a0_0 : Int) (a0_1 : Bool) (a0_2 : Int) (a0_3 : ByteArray) (A0_4 : Option Addr) (c0_4 : Nat) (l0_4 : List (S72)) (r : Int) (w : World) (hr0_4 : Kd.C k72 w A0_4 l0_4.length l0_4) (hc0_4 : l0_4.length ≤ c0_4) (h : chain_Check.f k a0_0 a0_1 a0_2 a0_3 l0_4 = some r) :
  Calls Try.prog 13 #[.agg #[.int .i64 a0_0, .bool a0_1, .int .i64 a0_2, .string a0_3, .slice A0_4 l0_4.length c0_4]] w fun e w' => e = .returned (.int .i64 r) ∧ Below w.heap.size w w' := by
 have hu24 := Try.underlying24
 have HR0_4 := zaeah hr0_4
 have HC0_4 := zaeah hc0_4
 clear hr0_4 hc0_4
 have HB := zaeah (Below.refl w.heap.size w)
 have H : (if a0_0 < 1 then (chain_Check.j0 k true a0_0 a0_1 a0_2 a0_3 l0_4) else (chain_Check.j0 k (decide (a0_0 > 1099511627776)) a0_0 a0_1 a0_2 a0_3 l0_4)) = some r := h
 clear h
 have HC2 := zaeah H
 clear H
 go_enter Try.func13, Try.ntmps13
 go_upto_region 1 with (first | ((with_reducible refine gate_dst (N := 1) rfl ?_); (try (refine gate_guard (by rfl) ?_; dsimp only)); refine box_event ?hg (N := 1) ?hd (cs := #[.int .i64 a0_0, .bool a0_1, .int .i64 a0_2, .string a0_3, .slice A0_4 l0_4.length c0_4]) (t := 24) ?hr ?_; (case hd => rfl); (case hg => rfl); (case hr => first | (go_simp; done) | (go_simp; rfl)); intro zaeaj hg w3 hbox hb; have n0_ := zaeah (below_step (zh0 HB) hb); have n1_ := zaeah (hbox); have n2_ := zns hg (zh0 HB); have n3_ := zns hg (zh0 HB); clear HB; have HB := n0_; have zaeai := n1_; have zaegn := n2_; have zaeak := n3_; clear n0_ n1_ n2_ n3_; clear hb hbox hg))
 (try simp only [Act.put, List.setIfInBounds_toArray, List.set_cons_zero, List.set_cons_succ])
 go_cut [12] (fun v12 wc => ∃ (kq : Nat) (zaean : Bool), v12 = .bool zaean ∧ Aside0 (chain_Check.j0 kq zaean a0_0 a0_1 a0_2 a0_3 l0_4 = some r) ∧ Aside0 (kq ≤ k) ∧ Aside0 (wc.heap[zaeaj]? = some (.cells #[.int .i64 a0_0, .bool a0_1, .int .i64 a0_2, .string a0_3, (.slice A0_4 l0_4.length c0_4)] 24 (0, 0))) ∧ Aside0 (Below w.heap.size w wc))
 case first =>
  have H := HC2.out
  clear HC2
  by_cases c4 : a0_0 < 1
  ·rw [if_pos c4] at H
   have c4b0 : decide (a0_0 < 1) = true := decide_eq_true c4
   clear c4
   (first | rw [c4b0] | (simp only [i64_w, i32_w]; rw [c4b0]) | skip)
   have H' := zaeah H
   clear H
   have zaeas : w3.cell? ⟨zaeaj, 0, none⟩ = some (.int .i64 a0_0) := (zaeaf zaeai.out 0).trans rfl
   have zaeat : w3.cell? ⟨zaeaj, 1, none⟩ = some (.bool a0_1) := (zaeaf zaeai.out 1).trans rfl
   have zaeau : w3.cell? ⟨zaeaj, 2, none⟩ = some (.int .i64 a0_2) := (zaeaf zaeai.out 2).trans rfl
   have zaeav : w3.cell? ⟨zaeaj, 3, none⟩ = some (.string a0_3) := (zaeaf zaeai.out 3).trans rfl
   have zaeaw : w3.cell? ⟨zaeaj, 4, none⟩ = some (.slice A0_4 l0_4.length c0_4) := (zaeaf zaeai.out 4).trans rfl
   have zaeax := zaeag zaeai.out 0
   have zaeay := zaeag zaeai.out 1
   have zaeaz := zaeag zaeai.out 2
   have zaeba := zaeag zaeai.out 3
   have zaebb := zaeag zaeai.out 4
   go_wp2
   go_meet
   case rel => exact ⟨_, (true), (by first | rfl | (simp; done) | (simp [*]; done)), H', ⟨by first | omega | exact Nat.le_refl _⟩, ⟨zbk zaeai⟩, ⟨zh1 HB zaeak⟩⟩
  ·rw [if_neg c4] at H
   have c4b0 : decide (a0_0 < 1) = false := decide_eq_false c4
   clear c4
   (first | rw [c4b0] | (simp only [i64_w, i32_w]; rw [c4b0]) | skip)
   have H' := zaeah H
   clear H
   have zaebc : w3.cell? ⟨zaeaj, 0, none⟩ = some (.int .i64 a0_0) := (zaeaf zaeai.out 0).trans rfl
   have zaebd : w3.cell? ⟨zaeaj, 1, none⟩ = some (.bool a0_1) := (zaeaf zaeai.out 1).trans rfl
   have zaebe : w3.cell? ⟨zaeaj, 2, none⟩ = some (.int .i64 a0_2) := (zaeaf zaeai.out 2).trans rfl
   have zaebf : w3.cell? ⟨zaeaj, 3, none⟩ = some (.string a0_3) := (zaeaf zaeai.out 3).trans rfl
   have zaebg : w3.cell? ⟨zaeaj, 4, none⟩ = some (.slice A0_4 l0_4.length c0_4) := (zaeaf zaeai.out 4).trans rfl
   have zaebh := zaeag zaeai.out 0
   have zaebi := zaeag zaeai.out 1
   have zaebj := zaeag zaeai.out 2
   have zaebk := zaeag zaeai.out 3
   have zaebl := zaeag zaeai.out 4
   go_wp2
   go_meet
   case rel => exact ⟨_, (decide (a0_0 > 1099511627776)), (by first | rfl | (simp; done) | (simp [*]; done)), H', ⟨by first | omega | exact Nat.le_refl _⟩, ⟨zbk zaeai⟩, ⟨zh1 HB zaeak⟩⟩
 case rest =>
  clear HC2
  try clear c1
  try clear p2
  try clear c4
  try clear c4b0
  try clear zaeas
  try clear zaeat
  try clear zaeau
  try clear zaeav
  try clear zaeaw
  try clear zaebc
  try clear zaebd
  try clear zaebe
  try clear zaebf
  try clear zaebg
  try clear zaeax
  try clear zaeay
  try clear zaeaz
  try clear zaeba
  try clear zaebb
  try clear zaebh
  try clear zaebi
  try clear zaebj
  try clear zaebk
  try clear zaebl
  obtain ⟨kq, zaean, rfl, HA, HJ1, zaeai, HB⟩ := hcut
  cases kq with
  | zero => exact absurd HA.out (by simp [chain_Check.j0])
  | succ kj1 =>
   have H := HA.out
   clear HA
   simp only [chain_Check.j0] at H
   by_cases c7 : zaean = true
   ·subst c7
    have H1 : (some 1) = some r := by rw [if_pos rfl] at H; exact H
    clear H
    have H := H1
    clear H1
    obtain rfl := Option.some.inj H
    go_wp2
    go_ret
    exact ⟨by first | rfl | (simp [errW_none, errW_some] <;> rfl) | (simp [*, errW_none, errW_some] <;> rfl), zh1 HB zaeak⟩
   ·replace c7 := Bool.eq_false_iff.mpr c7
    subst c7
    have H1 : (if a0_1 = true then (if a0_2 = 0 then (if a0_3.toList = ([] : List UInt8) then (if (l0_4.length : Int) > 0 then (some 1) else (some 0)) else (some 1)) else (some 1)) else ((chain_Pieces.f kj1 l0_4).bind fun bt119 => (if bt119.2 = 0 then (if bt119.1 = a0_2 then (if bt119.1 > 1048576 then (some 1) else ((chain_digits.f kj1 a0_3).bind fun t121 => (if t121 = true then (some 0) else (some 1)))) else (some 1)) else (some 1)))) = some r := by rw [if_neg (show ¬ (false = true) by decide)] at H; exact H
    clear H
    have H := H1
    clear H1
    by_cases c8 : a0_1 = true
    ·subst c8
     have H1 : (if a0_2 = 0 then (if a0_3.toList = ([] : List UInt8) then (if (l0_4.length : Int) > 0 then (some 1) else (some 0)) else (some 1)) else (some 1)) = some r := by rw [if_pos rfl] at H; exact H
     clear H
     have H := H1
     clear H1
     by_cases c9 : a0_2 = 0
     ·rw [if_pos c9] at H
      have c9b0 : (a0_2 == 0) = true := beq_iff_eq.mpr c9
      have c9b1 : (a0_2 != 0) = false := bne_eq_false_iff_eq.mpr c9
      clear c9
      by_cases c10 : a0_3.toList = ([] : List UInt8)
      ·rw [if_pos c10] at H
       have c10b0 : (a0_3.toList == ([] : List UInt8)) = true := beq_iff_eq.mpr c10
       have c10b1 : (a0_3.toList != ([] : List UInt8)) = false := bne_eq_false_iff_eq.mpr c10
       clear c10
       by_cases c11 : (l0_4.length : Int) > 0
       ·rw [if_pos c11] at H
        have c11b0 : decide (0 < (l0_4.length : Int)) = true := decide_eq_true c11
        have c11b1 : decide (0 < l0_4.length) = true := decide_eq_true (by omega)
        clear c11
        obtain rfl := Option.some.inj H
        have zaebn : wc.cell? ⟨zaeaj, 0, none⟩ = some (.int .i64 a0_0) := (zaeaf zaeai.out 0).trans rfl
        have zaebo : wc.cell? ⟨zaeaj, 1, none⟩ = some (.bool true) := (zaeaf zaeai.out 1).trans rfl
        have zaebp : wc.cell? ⟨zaeaj, 2, none⟩ = some (.int .i64 a0_2) := (zaeaf zaeai.out 2).trans rfl
        have zaebq : wc.cell? ⟨zaeaj, 3, none⟩ = some (.string a0_3) := (zaeaf zaeai.out 3).trans rfl
        have zaebr : wc.cell? ⟨zaeaj, 4, none⟩ = some (.slice A0_4 l0_4.length c0_4) := (zaeaf zaeai.out 4).trans rfl
        have zaebs := zaeag zaeai.out 0
        have zaebt := zaeag zaeai.out 1
        have zaebu := zaeag zaeai.out 2
        have zaebv := zaeag zaeai.out 3
        have zaebw := zaeag zaeai.out 4
        go_wp2
        go_ret
        exact ⟨by first | rfl | (simp [errW_none, errW_some] <;> rfl) | (simp [*, errW_none, errW_some] <;> rfl), zh1 HB zaeak⟩
       ·rw [if_neg c11] at H
        have c11b0 : decide (0 < (l0_4.length : Int)) = false := decide_eq_false c11
        have c11b1 : decide (0 < l0_4.length) = false := decide_eq_false (by omega)
        clear c11
        obtain rfl := Option.some.inj H
        have zaebx : wc.cell? ⟨zaeaj, 0, none⟩ = some (.int .i64 a0_0) := (zaeaf zaeai.out 0).trans rfl
        have zaeby : wc.cell? ⟨zaeaj, 1, none⟩ = some (.bool true) := (zaeaf zaeai.out 1).trans rfl
        have zaebz : wc.cell? ⟨zaeaj, 2, none⟩ = some (.int .i64 a0_2) := (zaeaf zaeai.out 2).trans rfl
        have zaeca : wc.cell? ⟨zaeaj, 3, none⟩ = some (.string a0_3) := (zaeaf zaeai.out 3).trans rfl
        have zaecb : wc.cell? ⟨zaeaj, 4, none⟩ = some (.slice A0_4 l0_4.length c0_4) := (zaeaf zaeai.out 4).trans rfl
        have zaecc := zaeag zaeai.out 0
        have zaecd := zaeag zaeai.out 1
        have zaece := zaeag zaeai.out 2
        have zaecf := zaeag zaeai.out 3
        have zaecg := zaeag zaeai.out 4
        go_wp2
        go_ret
        exact ⟨by first | rfl | (simp [errW_none, errW_some] <;> rfl) | (simp [*, errW_none, errW_some] <;> rfl), zh1 HB zaeak⟩
      ·rw [if_neg c10] at H
       have c10b0 : (a0_3.toList == ([] : List UInt8)) = false := beq_eq_false_iff_ne.mpr c10
       have c10b1 : (a0_3.toList != ([] : List UInt8)) = true := bne_iff_ne.mpr c10
       obtain rfl := Option.some.inj H
       have zaech : wc.cell? ⟨zaeaj, 0, none⟩ = some (.int .i64 a0_0) := (zaeaf zaeai.out 0).trans rfl
       have zaeci : wc.cell? ⟨zaeaj, 1, none⟩ = some (.bool true) := (zaeaf zaeai.out 1).trans rfl
       have zaecj : wc.cell? ⟨zaeaj, 2, none⟩ = some (.int .i64 a0_2) := (zaeaf zaeai.out 2).trans rfl
       have zaeck : wc.cell? ⟨zaeaj, 3, none⟩ = some (.string a0_3) := (zaeaf zaeai.out 3).trans rfl
       have zaecl : wc.cell? ⟨zaeaj, 4, none⟩ = some (.slice A0_4 l0_4.length c0_4) := (zaeaf zaeai.out 4).trans rfl
       have zaecm := zaeag zaeai.out 0
       have zaecn := zaeag zaeai.out 1
       have zaeco := zaeag zaeai.out 2
       have zaecp := zaeag zaeai.out 3
       have zaecq := zaeag zaeai.out 4
       go_wp2
       go_ret
       exact ⟨by first | rfl | (simp [errW_none, errW_some] <;> rfl) | (simp [*, errW_none, errW_some] <;> rfl), zh1 HB zaeak⟩
     ·rw [if_neg c9] at H
      have c9b0 : (a0_2 == 0) = false := beq_eq_false_iff_ne.mpr c9
      have c9b1 : (a0_2 != 0) = true := bne_iff_ne.mpr c9
      obtain rfl := Option.some.inj H
      have zaecr : wc.cell? ⟨zaeaj, 0, none⟩ = some (.int .i64 a0_0) := (zaeaf zaeai.out 0).trans rfl
      have zaecs : wc.cell? ⟨zaeaj, 1, none⟩ = some (.bool true) := (zaeaf zaeai.out 1).trans rfl
      have zaect : wc.cell? ⟨zaeaj, 2, none⟩ = some (.int .i64 a0_2) := (zaeaf zaeai.out 2).trans rfl
      have zaecu : wc.cell? ⟨zaeaj, 3, none⟩ = some (.string a0_3) := (zaeaf zaeai.out 3).trans rfl
      have zaecv : wc.cell? ⟨zaeaj, 4, none⟩ = some (.slice A0_4 l0_4.length c0_4) := (zaeaf zaeai.out 4).trans rfl
      have zaecw := zaeag zaeai.out 0
      have zaecx := zaeag zaeai.out 1
      have zaecy := zaeag zaeai.out 2
      have zaecz := zaeag zaeai.out 3
      have zaeda := zaeag zaeai.out 4
      go_wp2
      go_ret
      exact ⟨by first | rfl | (simp [errW_none, errW_some] <;> rfl) | (simp [*, errW_none, errW_some] <;> rfl), zh1 HB zaeak⟩
    ·replace c8 := Bool.eq_false_iff.mpr c8
     subst c8
     have H1 : ((chain_Pieces.f kj1 l0_4).bind fun bt119 => (if bt119.2 = 0 then (if bt119.1 = a0_2 then (if bt119.1 > 1048576 then (some 1) else ((chain_digits.f kj1 a0_3).bind fun t121 => (if t121 = true then (some 0) else (some 1)))) else (some 1)) else (some 1))) = some r := by rw [if_neg (show ¬ (false = true) by decide)] at H; exact H
     clear H
     have H := H1
     clear H1
     replace H := Option.bind_eq_some_iff.mp H
     obtain ⟨⟨t119, t120⟩, A160, H⟩ := H
     replace H : (if t120 = 0 then (if t119 = a0_2 then (if t119 > 1048576 then (some 1) else ((chain_digits.f kj1 a0_3).bind fun t121 => (if t121 = true then (some 0) else (some 1)))) else (some 1)) else (some 1)) = some r := H
     have A16 := zaeah A160
     clear A160
     by_cases c17 : t120 = 0
     ·rw [if_pos c17] at H
      have c17b0 : (t120 == 0) = true := beq_iff_eq.mpr c17
      have c17b1 : (t120 != 0) = false := bne_eq_false_iff_eq.mpr c17
      clear c17
      by_cases c18 : t119 = a0_2
      ·rw [if_pos c18] at H
       have c18b0 : (t119 == a0_2) = true := beq_iff_eq.mpr c18
       have c18b1 : (t119 != a0_2) = false := bne_eq_false_iff_eq.mpr c18
       clear c18
       by_cases c19 : t119 > 1048576
       ·rw [if_pos c19] at H
        have c19b0 : decide (1048576 < t119) = true := decide_eq_true c19
        clear c19
        obtain rfl := Option.some.inj H
        have zaedb : wc.cell? ⟨zaeaj, 0, none⟩ = some (.int .i64 a0_0) := (zaeaf zaeai.out 0).trans rfl
        have zaedc : wc.cell? ⟨zaeaj, 1, none⟩ = some (.bool false) := (zaeaf zaeai.out 1).trans rfl
        have zaedd : wc.cell? ⟨zaeaj, 2, none⟩ = some (.int .i64 a0_2) := (zaeaf zaeai.out 2).trans rfl
        have zaede : wc.cell? ⟨zaeaj, 3, none⟩ = some (.string a0_3) := (zaeaf zaeai.out 3).trans rfl
        have zaedf : wc.cell? ⟨zaeaj, 4, none⟩ = some (.slice A0_4 l0_4.length c0_4) := (zaeaf zaeai.out 4).trans rfl
        have zaedg := zaeag zaeai.out 0
        have zaedh := zaeag zaeai.out 1
        have zaedi := zaeag zaeai.out 2
        have zaedj := zaeag zaeai.out 3
        have zaedk := zaeag zaeai.out 4
        go_wp2_with (first | ((with_reducible refine gate_callee (f := 9) rfl ?_); refine goesL_ (some 32) rfl rfl Try.func9 (by kernel_rfl) rfl #[.slice A0_4 l0_4.length c0_4] rfl (by (try simp only [List.map_toArray, List.map_cons, List.map_nil]); first | done | rfl) ?_; (with_reducible refine (chain_Pieces.calls kj1 _ _ l0_4 t119 t120 _ ?side1 ?side2 A16.out).mono ?_); (case side1 => repeat (first | exact (Kd.C_below HR0_4.out HB.out) | (with_reducible refine Kd.C_alloc ?_ _) | (with_reducible refine Kd.C_drewN ?_ _) | (with_reducible refine Kd.C_drew ?_))); (case side2 => exact HC0_4.out); rintro e w21 ⟨rfl, hb⟩; refine ⟨_, rfl, ?_⟩; have n0_ := zbb zaeai hb; have n1_ := zaeah (below_step (zh1 HB zaeak) hb); clear zaeai; clear HB; have zaeai := n0_; have HB := n1_; clear n0_ n1_; (try clear hb); (try clear hk); (try clear hi); have zaedl : w21.cell? ⟨zaeaj, 0, none⟩ = some (.int .i64 a0_0) := (zaeaf zaeai.out 0).trans rfl; have zaedm : w21.cell? ⟨zaeaj, 1, none⟩ = some (.bool false) := (zaeaf zaeai.out 1).trans rfl; have zaedn : w21.cell? ⟨zaeaj, 2, none⟩ = some (.int .i64 a0_2) := (zaeaf zaeai.out 2).trans rfl; have zaedo : w21.cell? ⟨zaeaj, 3, none⟩ = some (.string a0_3) := (zaeaf zaeai.out 3).trans rfl; have zaedp : w21.cell? ⟨zaeaj, 4, none⟩ = some (.slice A0_4 l0_4.length c0_4) := (zaeaf zaeai.out 4).trans rfl; have zaedq := zaeag zaeai.out 0; have zaedr := zaeag zaeai.out 1; have zaeds := zaeag zaeai.out 2; have zaedt := zaeag zaeai.out 3; have zaedu := zaeag zaeai.out 4))
        go_ret
        exact ⟨by first | rfl | (simp [errW_none, errW_some] <;> rfl) | (simp [*, errW_none, errW_some] <;> rfl), zh1 HB zaeak⟩
       ·rw [if_neg c19] at H
        have c19b0 : decide (1048576 < t119) = false := decide_eq_false c19
        clear c19
        replace H := Option.bind_eq_some_iff.mp H
        obtain ⟨t121, A230, H⟩ := H
        replace H : (if t121 = true then (some 0) else (some 1)) = some r := H
        have A23 := zaeah A230
        clear A230
        by_cases c24 : t121 = true
        ·subst c24
         have H1 : (some 0) = some r := by rw [if_pos rfl] at H; exact H
         clear H
         have H := H1
         clear H1
         obtain rfl := Option.some.inj H
         have zaedv : wc.cell? ⟨zaeaj, 0, none⟩ = some (.int .i64 a0_0) := (zaeaf zaeai.out 0).trans rfl
         have zaedw : wc.cell? ⟨zaeaj, 1, none⟩ = some (.bool false) := (zaeaf zaeai.out 1).trans rfl
         have zaedx : wc.cell? ⟨zaeaj, 2, none⟩ = some (.int .i64 a0_2) := (zaeaf zaeai.out 2).trans rfl
         have zaedy : wc.cell? ⟨zaeaj, 3, none⟩ = some (.string a0_3) := (zaeaf zaeai.out 3).trans rfl
         have zaedz : wc.cell? ⟨zaeaj, 4, none⟩ = some (.slice A0_4 l0_4.length c0_4) := (zaeaf zaeai.out 4).trans rfl
         have zaeea := zaeag zaeai.out 0
         have zaeeb := zaeag zaeai.out 1
         have zaeec := zaeag zaeai.out 2
         have zaeed := zaeag zaeai.out 3
         have zaeee := zaeag zaeai.out 4
         go_wp2_with (first | ((with_reducible refine gate_callee (f := 9) rfl ?_); refine goesL_ (some 32) rfl rfl Try.func9 (by kernel_rfl) rfl #[.slice A0_4 l0_4.length c0_4] rfl (by (try simp only [List.map_toArray, List.map_cons, List.map_nil]); first | done | rfl) ?_; (with_reducible refine (chain_Pieces.calls kj1 _ _ l0_4 t119 t120 _ ?side1 ?side2 A16.out).mono ?_); (case side1 => repeat (first | exact (Kd.C_below HR0_4.out HB.out) | (with_reducible refine Kd.C_alloc ?_ _) | (with_reducible refine Kd.C_drewN ?_ _) | (with_reducible refine Kd.C_drew ?_))); (case side2 => exact HC0_4.out); rintro e w26 ⟨rfl, hb⟩; refine ⟨_, rfl, ?_⟩; have n0_ := zbb zaeai hb; have n1_ := zaeah (below_step (zh1 HB zaeak) hb); clear zaeai; clear HB; have zaeai := n0_; have HB := n1_; clear n0_ n1_; (try clear hb); (try clear hk); (try clear hi); have zaeef : w26.cell? ⟨zaeaj, 0, none⟩ = some (.int .i64 a0_0) := (zaeaf zaeai.out 0).trans rfl; have zaeeg : w26.cell? ⟨zaeaj, 1, none⟩ = some (.bool false) := (zaeaf zaeai.out 1).trans rfl; have zaeeh : w26.cell? ⟨zaeaj, 2, none⟩ = some (.int .i64 a0_2) := (zaeaf zaeai.out 2).trans rfl; have zaeei : w26.cell? ⟨zaeaj, 3, none⟩ = some (.string a0_3) := (zaeaf zaeai.out 3).trans rfl; have zaeej : w26.cell? ⟨zaeaj, 4, none⟩ = some (.slice A0_4 l0_4.length c0_4) := (zaeaf zaeai.out 4).trans rfl; have zaeek := zaeag zaeai.out 0; have zaeel := zaeag zaeai.out 1; have zaeem := zaeag zaeai.out 2; have zaeen := zaeag zaeai.out 3; have zaeeo := zaeag zaeai.out 4) | (go_at_call 34; (with_reducible refine (chain_digits.calls kj1 a0_3 true _ A23.out).mono ?_); rintro e w' ⟨rfl, ⟨nd, rfl⟩⟩))
         go_ret
         exact ⟨by first | rfl | (simp [errW_none, errW_some] <;> rfl) | (simp [*, errW_none, errW_some] <;> rfl), zh1 HB zaeak⟩
        ·replace c24 := Bool.eq_false_iff.mpr c24
         subst c24
         have H1 : (some 1) = some r := by rw [if_neg (show ¬ (false = true) by decide)] at H; exact H
         clear H
         have H := H1
         clear H1
         obtain rfl := Option.some.inj H
         have zaeep : wc.cell? ⟨zaeaj, 0, none⟩ = some (.int .i64 a0_0) := (zaeaf zaeai.out 0).trans rfl
         have zaeeq : wc.cell? ⟨zaeaj, 1, none⟩ = some (.bool false) := (zaeaf zaeai.out 1).trans rfl
         have zaeer : wc.cell? ⟨zaeaj, 2, none⟩ = some (.int .i64 a0_2) := (zaeaf zaeai.out 2).trans rfl
         have zaees : wc.cell? ⟨zaeaj, 3, none⟩ = some (.string a0_3) := (zaeaf zaeai.out 3).trans rfl
         have zaeet : wc.cell? ⟨zaeaj, 4, none⟩ = some (.slice A0_4 l0_4.length c0_4) := (zaeaf zaeai.out 4).trans rfl
         have zaeeu := zaeag zaeai.out 0
         have zaeev := zaeag zaeai.out 1
         have zaeew := zaeag zaeai.out 2
         have zaeex := zaeag zaeai.out 3
         have zaeey := zaeag zaeai.out 4
         go_wp2_with (first | ((with_reducible refine gate_callee (f := 9) rfl ?_); refine goesL_ (some 32) rfl rfl Try.func9 (by kernel_rfl) rfl #[.slice A0_4 l0_4.length c0_4] rfl (by (try simp only [List.map_toArray, List.map_cons, List.map_nil]); first | done | rfl) ?_; (with_reducible refine (chain_Pieces.calls kj1 _ _ l0_4 t119 t120 _ ?side1 ?side2 A16.out).mono ?_); (case side1 => repeat (first | exact (Kd.C_below HR0_4.out HB.out) | (with_reducible refine Kd.C_alloc ?_ _) | (with_reducible refine Kd.C_drewN ?_ _) | (with_reducible refine Kd.C_drew ?_))); (case side2 => exact HC0_4.out); rintro e w29 ⟨rfl, hb⟩; refine ⟨_, rfl, ?_⟩; have n0_ := zbb zaeai hb; have n1_ := zaeah (below_step (zh1 HB zaeak) hb); clear zaeai; clear HB; have zaeai := n0_; have HB := n1_; clear n0_ n1_; (try clear hb); (try clear hk); (try clear hi); have zaeez : w29.cell? ⟨zaeaj, 0, none⟩ = some (.int .i64 a0_0) := (zaeaf zaeai.out 0).trans rfl; have zaefa : w29.cell? ⟨zaeaj, 1, none⟩ = some (.bool false) := (zaeaf zaeai.out 1).trans rfl; have zaefb : w29.cell? ⟨zaeaj, 2, none⟩ = some (.int .i64 a0_2) := (zaeaf zaeai.out 2).trans rfl; have zaefc : w29.cell? ⟨zaeaj, 3, none⟩ = some (.string a0_3) := (zaeaf zaeai.out 3).trans rfl; have zaefd : w29.cell? ⟨zaeaj, 4, none⟩ = some (.slice A0_4 l0_4.length c0_4) := (zaeaf zaeai.out 4).trans rfl; have zaefe := zaeag zaeai.out 0; have zaeff := zaeag zaeai.out 1; have zaefg := zaeag zaeai.out 2; have zaefh := zaeag zaeai.out 3; have zaefi := zaeag zaeai.out 4) | (go_at_call 34; (with_reducible refine (chain_digits.calls kj1 a0_3 false _ A23.out).mono ?_); rintro e w' ⟨rfl, ⟨nd, rfl⟩⟩))
         go_ret
         exact ⟨by first | rfl | (simp [errW_none, errW_some] <;> rfl) | (simp [*, errW_none, errW_some] <;> rfl), zh1 HB zaeak⟩
      ·rw [if_neg c18] at H
       have c18b0 : (t119 == a0_2) = false := beq_eq_false_iff_ne.mpr c18
       have c18b1 : (t119 != a0_2) = true := bne_iff_ne.mpr c18
       obtain rfl := Option.some.inj H
       have zaefj : wc.cell? ⟨zaeaj, 0, none⟩ = some (.int .i64 a0_0) := (zaeaf zaeai.out 0).trans rfl
       have zaefk : wc.cell? ⟨zaeaj, 1, none⟩ = some (.bool false) := (zaeaf zaeai.out 1).trans rfl
       have zaefl : wc.cell? ⟨zaeaj, 2, none⟩ = some (.int .i64 a0_2) := (zaeaf zaeai.out 2).trans rfl
       have zaefm : wc.cell? ⟨zaeaj, 3, none⟩ = some (.string a0_3) := (zaeaf zaeai.out 3).trans rfl
       have zaefn : wc.cell? ⟨zaeaj, 4, none⟩ = some (.slice A0_4 l0_4.length c0_4) := (zaeaf zaeai.out 4).trans rfl
       have zaefo := zaeag zaeai.out 0
       have zaefp := zaeag zaeai.out 1
       have zaefq := zaeag zaeai.out 2
       have zaefr := zaeag zaeai.out 3
       have zaefs := zaeag zaeai.out 4
       go_wp2_with (first | ((with_reducible refine gate_callee (f := 9) rfl ?_); refine goesL_ (some 32) rfl rfl Try.func9 (by kernel_rfl) rfl #[.slice A0_4 l0_4.length c0_4] rfl (by (try simp only [List.map_toArray, List.map_cons, List.map_nil]); first | done | rfl) ?_; (with_reducible refine (chain_Pieces.calls kj1 _ _ l0_4 t119 t120 _ ?side1 ?side2 A16.out).mono ?_); (case side1 => repeat (first | exact (Kd.C_below HR0_4.out HB.out) | (with_reducible refine Kd.C_alloc ?_ _) | (with_reducible refine Kd.C_drewN ?_ _) | (with_reducible refine Kd.C_drew ?_))); (case side2 => exact HC0_4.out); rintro e w32 ⟨rfl, hb⟩; refine ⟨_, rfl, ?_⟩; have n0_ := zbb zaeai hb; have n1_ := zaeah (below_step (zh1 HB zaeak) hb); clear zaeai; clear HB; have zaeai := n0_; have HB := n1_; clear n0_ n1_; (try clear hb); (try clear hk); (try clear hi); have zaeft : w32.cell? ⟨zaeaj, 0, none⟩ = some (.int .i64 a0_0) := (zaeaf zaeai.out 0).trans rfl; have zaefu : w32.cell? ⟨zaeaj, 1, none⟩ = some (.bool false) := (zaeaf zaeai.out 1).trans rfl; have zaefv : w32.cell? ⟨zaeaj, 2, none⟩ = some (.int .i64 a0_2) := (zaeaf zaeai.out 2).trans rfl; have zaefw : w32.cell? ⟨zaeaj, 3, none⟩ = some (.string a0_3) := (zaeaf zaeai.out 3).trans rfl; have zaefx : w32.cell? ⟨zaeaj, 4, none⟩ = some (.slice A0_4 l0_4.length c0_4) := (zaeaf zaeai.out 4).trans rfl; have zaefy := zaeag zaeai.out 0; have zaefz := zaeag zaeai.out 1; have zaega := zaeag zaeai.out 2; have zaegb := zaeag zaeai.out 3; have zaegc := zaeag zaeai.out 4))
       go_ret
       exact ⟨by first | rfl | (simp [errW_none, errW_some] <;> rfl) | (simp [*, errW_none, errW_some] <;> rfl), zh1 HB zaeak⟩
     ·rw [if_neg c17] at H
      have c17b0 : (t120 == 0) = false := beq_eq_false_iff_ne.mpr c17
      have c17b1 : (t120 != 0) = true := bne_iff_ne.mpr c17
      obtain rfl := Option.some.inj H
      have zaegd : wc.cell? ⟨zaeaj, 0, none⟩ = some (.int .i64 a0_0) := (zaeaf zaeai.out 0).trans rfl
      have zaege : wc.cell? ⟨zaeaj, 1, none⟩ = some (.bool false) := (zaeaf zaeai.out 1).trans rfl
      have zaegf : wc.cell? ⟨zaeaj, 2, none⟩ = some (.int .i64 a0_2) := (zaeaf zaeai.out 2).trans rfl
      have zaegg : wc.cell? ⟨zaeaj, 3, none⟩ = some (.string a0_3) := (zaeaf zaeai.out 3).trans rfl
      have zaegh : wc.cell? ⟨zaeaj, 4, none⟩ = some (.slice A0_4 l0_4.length c0_4) := (zaeaf zaeai.out 4).trans rfl
      have zaegi := zaeag zaeai.out 0
      have zaegj := zaeag zaeai.out 1
      have zaegk := zaeag zaeai.out 2
      have zaegl := zaeag zaeai.out 3
      have zaegm := zaeag zaeai.out 4
      go_wp2_with (first | ((with_reducible refine gate_callee (f := 9) rfl ?_); refine goesL_ (some 32) rfl rfl Try.func9 (by kernel_rfl) rfl #[.slice A0_4 l0_4.length c0_4] rfl (by (try simp only [List.map_toArray, List.map_cons, List.map_nil]); first | done | rfl) ?_; (with_reducible refine (chain_Pieces.calls kj1 _ _ l0_4 t119 t120 _ ?side1 ?side2 A16.out).mono ?_); (case side1 => repeat (first | exact (Kd.C_below HR0_4.out HB.out) | (with_reducible refine Kd.C_alloc ?_ _) | (with_reducible refine Kd.C_drewN ?_ _) | (with_reducible refine Kd.C_drew ?_))); (case side2 => exact HC0_4.out); rintro e w35 ⟨rfl, hb⟩; refine ⟨_, rfl, ?_⟩; have n0_ := zbb zaeai hb; have n1_ := zaeah (below_step (zh1 HB zaeak) hb); clear zaeai; clear HB; have zaeai := n0_; have HB := n1_; clear n0_ n1_; (try clear hb); (try clear hk); (try clear hi)))
      go_ret
      exact ⟨by first | rfl | (simp [errW_none, errW_some] <;> rfl) | (simp [*, errW_none, errW_some] <;> rfl), zh1 HB zaeak⟩

end Go.Proofs.Ytmpnaaegahjfkaa.Q