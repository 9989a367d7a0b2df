

/- Written by a program of this session (wip/patch_print.py over the kit's print): functions of the given program as plain Lean functions, and that each call does what its function says, under no further conditions. -/
import Derived.Test.YtmpnaaegahjfkaaQx0
import Derived.Test.YtmpnaaegahjfkaaQx5
namespace Go.Proofs.Ytmpnaaegahjfkaa.Q
open Go.RowKit Go.Proofs.YtmpnaaegahjfkaaW.PrintWords Go.Proofs.YtmpnaaegahjfkaaW.PrintLast Go.Proofs.YtmpnaaegahjfkaaW.PrintMore
attribute [local go_sem] max2_int min2_int max_two min_two max_three min_three max_four min_four   -- for this text's walks alone
set_option linter.unusedVariables false
set_option linter.unusedSimpArgs false
attribute [local go_sem] xor_ones_u8 xor_ones_u16 xor_ones_u32 xor_ones_u64 cell_twice frozen_twice
abbrev zataa := @List.setIfInBounds_toArray
abbrev zatab := @List.set_cons_zero
abbrev zatac := @List.set_cons_succ
abbrev zatad := @World.block_lt_of_cell?
abbrev zatae := @blk_drewN
abbrev zataf := @blk_alloc
abbrev zatag := @blk_drew
abbrev zatah := @below_set
abbrev zatai := @pw_below_drewN
abbrev zataj := @below_drew1
abbrev zatak := @below_alloc
abbrev zatal := @blk_cell
abbrev zatam := @blk_frozen
abbrev zatan := @List.map_toArray
abbrev zatao := @List.map_cons
abbrev zatap := @List.map_nil
abbrev zataq := @Aside0.mk
abbrev zatsq0 : Array Bool := #[false, false, false, false, false, false, false, false, false, false]
abbrev zatsq1 : Array Bool := #[true, false, false, false, false, false, false, false, false, false]
abbrev zatsq2 : Array Bool := #[true, false, true, false, false, false, false, false, false, false]
abbrev zatsq3 : Array Bool := #[true, false, true, true, false, false, false, false, false, false]
abbrev zatsq4 : Array Bool := #[true, false, true, true, true, false, false, false, false, false]
abbrev zatsq5 : Array Bool := #[true, false, true, true, true, true, false, false, false, false]
abbrev zatsq6 : Array Bool := #[true, true, true, true, true, true, false, false, false, false]
abbrev zatsq7 : Array Bool := #[true, true, true, true, true, true, true, false, false, false]
abbrev zatsq8 : Array Bool := #[true, true, true, true, true, true, true, true, false, false]
abbrev zatsq9 : Array Bool := #[true, true, true, true, true, true, true, true, true, false]
abbrev zatsq10 : Array Bool := #[true, true, true, true, true, true, true, true, true, true]
abbrev zatsq11 : Array Bool := #[false, false, false, false, false, false, false, false, false, false, false]
abbrev zatsq12 : Array Bool := #[true, false, false, false, false, false, false, false, false, false, false]
abbrev zatsq13 : Array Bool := #[true, true, false, false, false, false, false, false, false, false, false]
abbrev zatsq14 : Array Bool := #[true, true, false, false, true, false, false, false, false, false, false]
abbrev zatsq15 : Array Bool := #[true, true, true, false, true, false, false, false, false, false, false]
abbrev zatsq16 : Array Bool := #[true, true, true, false, true, true, false, false, false, false, false]
abbrev zatsq17 : Array Bool := #[true, true, true, false, true, true, true, false, false, false, false]
abbrev zatsq18 : Array Bool := #[true, true, true, true, true, true, true, false, false, false, false]
abbrev zatsq19 : Array Bool := #[true, true, true, true, true, true, true, true, false, false, false]
abbrev zatsq20 : Array Bool := #[true, true, true, true, true, true, true, true, true, false, false]
abbrev zatsq21 : Array Bool := #[true, true, true, true, true, true, true, true, true, true, false]
abbrev zatsq22 : Array Bool := #[true, true, true, true, true, true, true, true, true, true, true]
/-! ### octet_Number: function 42 -/
def octet_Number.l0 : Nat → Int → List Int → Option (ByteArray)
 | 0, _, _ => none
 | k + 1, x0, x3 => if x0 ≥ 128 then (if x3.length < 140737488355328 then (octet_Number.l0 k (x0 / 128) (x3 ++ [Go.bits .or .u8 ((x0) % 256) 128])) else (none)) else (if x3.length < 140737488355328 then (some (strOfNums (x3 ++ [(x0) % 256]))) else (none))
def octet_Number.f (k : Nat) (a0 : Int) : Option (ByteArray) := octet_Number.l0 k a0 ([] : List Int)
set_option maxHeartbeats 8000000 in
set_option maxRecDepth 100000 in
theorem octet_Number.calls (k : Nat) (a0 : Int) (r : ByteArray) (w : World) (h : octet_Number.f k a0 = some r) :
  Calls Try.prog 42 #[.int .u64 a0] w fun e w' => e = .returned (.string r) ∧ Below w.heap.size w w' := by
 have HB := zataq (Below.refl w.heap.size w)
 have H : (octet_Number.l0 k a0 ([] : List Int)) = some r := h
 clear h
 have H' := zataq H
 clear H
 go_enter Try.func42, Try.ntmps42
 go_wp2
 go_loopg [0, 3] k (fun kq v0 v3 w' => ∃ (zatbb : Int) (zatbc : List Int), v0 = .int .u64 zatbb ∧ Aside0 (octet_Number.l0 kq zatbb zatbc = some r) ∧ Aside0 (kq ≤ k) ∧ Aside0 (Kd.R (Kd.int .u8) 5 w' w.heap.size (fun _ => True) v3 zatbc) ∧ Aside0 (Below w.heap.size w w'))
 case atStart => exact ⟨(a0), (([] : List Int)), (by first | rfl | (simp; done) | (simp [*]; done)), H', ⟨Nat.le_refl _⟩, ⟨by first | exact Kd.R_nil _ _ _ _ _ | exact Kd.N_nil _ _ _ _ _ | exact Kd.V_nil _ _ _ _ _ | exact Kd.Q_nil _ _ _ _ _ | exact Kd.S_nil _ _ _ _ _⟩, ⟨zh0 HB⟩⟩
 case round =>
  clear H'
  obtain ⟨zatbb, zatbc, rfl, HA, HK1, HO_3, HB⟩ := hrel
  cases gk with
  | zero => exact absurd HA.out (by simp [octet_Number.l0])
  | succ k1 =>
   have H := HA.out
   clear HA
   simp only [octet_Number.l0] at H
   by_cases c2 : zatbb ≥ 128
   ·rw [if_pos c2] at H
    have c2b0 : decide (128 ≤ zatbb) = true := decide_eq_true c2
    clear c2
    by_cases c3 : zatbc.length < 140737488355328
    ·rw [if_pos c3] at H
     have LMc3 := zataq c3
     clear c3
     obtain ⟨y423, hy423⟩ : ∃ y_ : List Int, y_ = (zatbc ++ [Go.bits .or .u8 ((zatbb) % 256) 128]) := ⟨_, rfl⟩
     replace H : (octet_Number.l0 k1 (zatbb / 128) y423) = some r := by first | (rw [hy423]; with_reducible exact H) | (have H2_ := (Option.bind_some _ _).symm.trans H; rw [hy423]; with_reducible exact H2_) | (have H2_ := (Option.bind_some _ _).symm.trans H; with_reducible exact H2_) | with_reducible exact H | (rw [hy423]; exact H) | exact H
     have Ny423 := zataq hy423
     clear hy423
     have H' := zataq H
     clear H
     go_wp2_with (first | ((with_reducible refine gate_builtin (b := .append) (xs := #[.tmp 6, .tmp 10]) rfl ?_); at_builtin; refine Kd.R_append (Kd.int .u8) (w0 := w) w.heap.size rfl (.tmp 6) (.tmp 10) 102 5 (.int .u8 0) 1 rfl Try.underlying102 info5 rfl (by decide) (by omega) u3 zatbc (Go.bits .or .u8 ((zatbb) % 256) 128) [.int .u8 (Go.bits .or .u8 ((zatbb) % 256) 128)] (fun _ => True) (fun _ => False) rfl rfl ?aP (fun _ hk => hk.elim) ?aF ?aO ?aB ?aS ?aL ?_; (case aP => exact rfl); (case aB => exact (zh0 HB)); (case aF => exact (fun _ _ => trivial)); (case aO => exact (zrk HO_3)); (case aS => exact (below_size (zh0 HB))); (case aL => have := LMc3.out; omega); intro v424 w4 ho hb hg hat; rw [← Ny423.out] at ho; have n0_ := zataq (hb); have n1_ := zataq (ho); clear HB; clear HO_3; have HB := n0_; have HO425 := n1_; clear n0_ n1_; clear ho hb hg hat))
     go_roundg k1
     case measure => have := HK1.out; omega
     case rel => exact ⟨(zatbb / 128), (y423), (by first | rfl | (simp; done) | (simp [*]; done)), H', ⟨by have := HK1.out; omega⟩, ⟨zrk HO425⟩, ⟨zh0 HB⟩⟩
    ·rw [if_neg c3] at H
     exact absurd H (by simp)
   ·rw [if_neg c2] at H
    have c2b0 : decide (128 ≤ zatbb) = false := decide_eq_false c2
    clear c2
    by_cases c5 : zatbc.length < 140737488355328
    ·rw [if_pos c5] at H
     have LMc5 := zataq c5
     clear c5
     obtain ⟨y426, hy426⟩ : ∃ y_ : List Int, y_ = (zatbc ++ [(zatbb) % 256]) := ⟨_, rfl⟩
     replace H : (some (strOfNums y426)) = some r := by first | (rw [hy426]; with_reducible exact H) | (have H2_ := (Option.bind_some _ _).symm.trans H; rw [hy426]; with_reducible exact H2_) | (have H2_ := (Option.bind_some _ _).symm.trans H; with_reducible exact H2_) | with_reducible exact H | (rw [hy426]; exact H) | exact H
     have Ny426 := zataq hy426
     clear hy426
     obtain rfl := Option.some.inj H
     go_wp2_with (first | ((with_reducible refine gate_builtin (b := .append) (xs := #[.tmp 14, .tmp 17]) rfl ?_); at_builtin; refine Kd.R_append (Kd.int .u8) (w0 := w) w.heap.size rfl (.tmp 14) (.tmp 17) 102 5 (.int .u8 0) 1 rfl Try.underlying102 info5 rfl (by decide) (by omega) u3 zatbc ((zatbb) % 256) [.int .u8 ((zatbb) % 256)] (fun _ => True) (fun _ => False) rfl rfl ?aP (fun _ hk => hk.elim) ?aF ?aO ?aB ?aS ?aL ?_; (case aP => exact rfl); (case aB => exact (zh0 HB)); (case aF => exact (fun _ _ => trivial)); (case aO => exact (zrk HO_3)); (case aS => exact (below_size (zh0 HB))); (case aL => have := LMc5.out; omega); intro v427 w6 ho hb hg hat; rw [← Ny426.out] at ho; have n0_ := zataq (hb); have n1_ := zataq (ho); clear HB; clear HO_3; have HB := n0_; have HO428 := n1_; clear n0_ n1_; clear ho hb hg hat; have hcv7 := own_string (P := Try.prog) Try.underlying102 Try.underlying5 Try.underlying9 (Kd.own_of_R HO428.out)))
     go_ret
     exact ⟨by first | rfl | (simp [errW_none, errW_some] <;> rfl) | (simp [*, errW_none, errW_some] <;> rfl), zh0 HB⟩
    ·rw [if_neg c5] at H
     exact absurd H (by simp)

/-! ### octet_Text: function 43 -/
def octet_Text.f (k : Nat) (a0 : ByteArray) : Option (ByteArray) := (octet_Number.f k (IntKind.u64.wrap ((a0.size : Int)))).bind fun t429 => (if t429.size + a0.size ≤ 9223372036854775807 then (some (t429 ++ a0)) else (none))
set_option maxHeartbeats 8000000 in
set_option maxRecDepth 100000 in
theorem octet_Text.calls (k : Nat) (a0 : ByteArray) (r : ByteArray) (w : World) (h : octet_Text.f k a0 = some r) :
  Calls Try.prog 43 #[.string a0] w fun e w' => e = .returned (.string r) ∧ Below w.heap.size w w' := by
 have HB := zataq (Below.refl w.heap.size w)
 have H : ((octet_Number.f k (IntKind.u64.wrap ((a0.size : Int)))).bind fun t429 => (if t429.size + a0.size ≤ 9223372036854775807 then (some (t429 ++ a0)) else (none))) = some r := h
 clear h
 replace H := Option.bind_eq_some_iff.mp H
 obtain ⟨t429, A20, H⟩ := H
 replace H : (if t429.size + a0.size ≤ 9223372036854775807 then (some (t429 ++ a0)) else (none)) = some r := H
 have A2 := zataq A20
 clear A20
 by_cases c3 : t429.size + a0.size ≤ 9223372036854775807
 ·rw [if_pos c3] at H
  have c3b0 := eq_true c3
  have c3b1 : decide (t429.size + a0.size ≤ 9223372036854775807) = true := decide_eq_true c3
  try have c3b2 : (9223372036854775807 < t429.size + a0.size) = False := eq_false (Nat.not_lt.2 c3)
  obtain rfl := Option.some.inj H
  go_enter Try.func43, Try.ntmps43
  go_wp2_with (first | ((with_reducible refine gate_callee (f := 42) rfl ?_); refine goesL_ (some 6) rfl rfl Try.func42 (by kernel_rfl) rfl #[.int .u64 (IntKind.u64.wrap ((a0.size : Int)))] rfl (by (try simp only [zatan, zatao, zatap]); first | done | rfl | (rw [IntWalk.u64_in ((a0.size : Int)) (by first | omega | (simp only [decide_eq_false_iff_not, decide_eq_true_eq] at *; omega))]; rfl)) ?_; (with_reducible refine (octet_Number.calls k (IntKind.u64.wrap ((a0.size : Int))) t429 _ A2.out).mono ?_); rintro e w4 ⟨rfl, hb⟩; refine ⟨_, rfl, ?_⟩; have n0_ := zataq (below_step (zh0 HB) hb); clear HB; have HB := n0_; clear n0_; (try clear hb); (try clear hk); (try clear hi)))
  go_ret
  exact ⟨by first | rfl | (simp [errW_none, errW_some] <;> rfl) | (simp [*, errW_none, errW_some] <;> rfl), zh0 HB⟩
 ·rw [if_neg c3] at H
  exact absurd H (by simp)

/-! ### chain_Encode: function 30 -/
mutual
def chain_Encode.l0 : Nat → ByteArray → List (S24) → Int → Int → Option (ByteArray × Int)
 | 0, _, _, _, _ => none
 | k + 1, x4, x16, x17, x18 => if x18 < x17 then (if 0 ≤ x18 then (if x18 < (x16.length : Int) then ((octet_Number.f k (IntKind.u64.wrap ((rd_T24 x16 x18).f0))).bind fun t434 => (if x4.size + t434.size ≤ 9223372036854775807 then (if (rd_T24 x16 x18).f1 = true then ((octet_Number.f k 1).bind fun t435 => (if (x4 ++ t434).size + t435.size ≤ 9223372036854775807 then (chain_Encode.l0 k ((x4 ++ t434) ++ t435) x16 x17 (wrap64 (x18 + 1))) else (none))) else ((octet_Number.f k 0).bind fun t436 => ((octet_Number.f k (IntKind.u64.wrap ((((rd_T24 x16 x18).f4).length : Int)))).bind fun t437 => (if t436.size + t437.size ≤ 9223372036854775807 then (if (x4 ++ t434).size + (t436 ++ t437).size ≤ 9223372036854775807 then (chain_Encode.l1 k ((x4 ++ t434) ++ (t436 ++ t437)) x16 x17 x18 ((rd_T24 x16 x18).f4) (((rd_T24 x16 x18).f4).length : Int) 0 ((rd_T24 x16 x18).f0) ((rd_T24 x16 x18).f1) ((rd_T24 x16 x18).f2) ((rd_T24 x16 x18).f3) ((rd_T24 x16 x18).f4)) else (none)) else (none))))) else (none))) else (none)) else (none)) else (some (x4, 0))
def chain_Encode.l1 : Nat → ByteArray → List (S24) → Int → Int → List (S72) → Int → Int → Int → Bool → Int → ByteArray → List (S72) → Option (ByteArray × Int)
 | 0, _, _, _, _, _, _, _, _, _, _, _, _ => none
 | k + 1, x4, x16, x17, x18, x43, x44, x45, zatbh, zatbi, zatbj, zatbf, zatbk => if x45 < x44 then (if 0 ≤ x45 then (if x45 < (x43.length : Int) then ((octet_Text.f k ((rd_T72 x43 x45).f0)).bind fun t440 => ((octet_Number.f k (IntKind.u64.wrap ((rd_T72 x43 x45).f1))).bind fun t441 => (if t440.size + t441.size ≤ 9223372036854775807 then (if x4.size + (t440 ++ t441).size ≤ 9223372036854775807 then (chain_Encode.l1 k (x4 ++ (t440 ++ t441)) x16 x17 x18 x43 x44 (wrap64 (x45 + 1)) zatbh zatbi zatbj zatbf zatbk) else (none)) else (none)))) else (none)) else (none)) else ((octet_Text.f k zatbf).bind fun t442 => (if x4.size + t442.size ≤ 9223372036854775807 then (chain_Encode.l0 k (x4 ++ t442) x16 x17 (wrap64 (x18 + 1))) else (none)))
end
def chain_Encode.f (k : Nat) (l0 : List (S24)) : Option (ByteArray × Int) := (chain_right.f k l0).bind fun t430 => (if t430 = true then ((octet_Number.f k (IntKind.u64.wrap ((l0.length : Int)))).bind fun t431 => (chain_Encode.l0 k t431 l0 (l0.length : Int) 0)) else (some ((⟨#[]⟩ : ByteArray), 1)))
def chain_Encode.T10 : Bool × List (List Nat × List Nat) := (true, [([], []), ([], []), ([], []), ([2], [2]), ([3], [3]), ([4], [4]), ([5, 1], [5]), ([1, 6], [1, 6]), ([0, 7], [0, 7]), ([8, 6, 0, 1, 2, 3, 4, 5, 6, 7, 8], [0, 8])])
def chain_Encode.B10 : List Nat := [0, 0, 0, 4, 12, 28, 62, 126, 255, 511]
theorem chain_Encode.tab10 : rtab .any (opsOf Try.f30 10) = chain_Encode.T10 := by kernel_rfl
theorem chain_Encode.bits10 : waitsOk chain_Encode.T10.2 chain_Encode.B10 = true := by kernel_rfl
def chain_Encode.T14 : Bool × List (List Nat × List Nat) := (true, [([], []), ([], []), ([1], [1]), ([2], [2]), ([], []), ([4], [4]), ([5], [5]), ([6, 3], [6]), ([3, 7], [3, 7]), ([0, 8], [0, 8]), ([9, 7, 0, 1, 2, 3, 4, 5, 6, 7, 8, 9], [0, 9])])
def chain_Encode.B14 : List Nat := [0, 0, 2, 6, 0, 16, 48, 126, 254, 511, 1023]
theorem chain_Encode.tab14 : rtab .any (opsOf Try.f30 14) = chain_Encode.T14 := by kernel_rfl
theorem chain_Encode.bits14 : waitsOk chain_Encode.T14.2 chain_Encode.B14 = true := by kernel_rfl
set_option maxHeartbeats 8000000 in
set_option maxRecDepth 100000 in
theorem chain_Encode.calls (k : Nat) (A0 : Option Addr) (c0 : Nat) (l0 : List (S24)) (r1 : ByteArray) (r2 : Int) (w : World) (hr0 : Kd.C k24 w A0 l0.length l0) (hc0 : l0.length ≤ c0) (h : chain_Encode.f k l0 = some (r1, r2)) :
  Calls Try.prog 30 #[.slice A0 l0.length c0] w fun e w' => e = .returned (.tuple #[.string r1, .int .i64 r2]) ∧ Below w.heap.size w w' := by
 have hu24 := Try.underlying24
 have hu72 := Try.underlying72
 have HR0 := zataq hr0
 have HC0 := zataq hc0
 clear hr0 hc0
 have HB := zataq (Below.refl w.heap.size w)
 have H : ((chain_right.f k l0).bind fun t430 => (if t430 = true then ((octet_Number.f k (IntKind.u64.wrap ((l0.length : Int)))).bind fun t431 => (chain_Encode.l0 k t431 l0 (l0.length : Int) 0)) else (some ((⟨#[]⟩ : ByteArray), 1)))) = some (r1, r2) := h
 clear h
 replace H := Option.bind_eq_some_iff.mp H
 obtain ⟨t430, A20, H⟩ := H
 replace H : (if t430 = true then ((octet_Number.f k (IntKind.u64.wrap ((l0.length : Int)))).bind fun t431 => (chain_Encode.l0 k t431 l0 (l0.length : Int) 0)) else (some ((⟨#[]⟩ : ByteArray), 1))) = some (r1, r2) := H
 have A2 := zataq A20
 clear A20
 by_cases c3 : t430 = true
 ·subst c3
  have H1 : ((octet_Number.f k (IntKind.u64.wrap ((l0.length : Int)))).bind fun t431 => (chain_Encode.l0 k t431 l0 (l0.length : Int) 0)) = some (r1, r2) := by rw [if_pos rfl] at H; exact H
  clear H
  have H := H1
  clear H1
  replace H := Option.bind_eq_some_iff.mp H
  obtain ⟨t431, A40, H⟩ := H
  replace H : (chain_Encode.l0 k t431 l0 (l0.length : Int) 0) = some (r1, r2) := H
  have A4 := zataq A40
  clear A40
  have H' := zataq H
  clear H
  go_enter Try.func30, Try.ntmps30
  go_wp2_with (first | ((with_reducible refine gate_callee (f := 37) rfl ?_); refine goesL_ (some 10) rfl rfl Try.func37 (by kernel_rfl) rfl #[.slice A0 l0.length c0] rfl (by (try simp only [zatan, zatao, zatap]); first | done | rfl) ?_; (with_reducible refine (chain_right.calls k _ _ l0 true _ ?side1 ?side2 A2.out).mono ?_); (case side1 => repeat (first | exact HR0.out | (with_reducible refine Kd.C_alloc ?_ _) | (with_reducible refine Kd.C_drewN ?_ _) | (with_reducible refine Kd.C_drew ?_))); (case side2 => exact HC0.out); rintro e w5 ⟨rfl, hb⟩; refine ⟨_, rfl, ?_⟩; have n0_ := zataq (below_step (zh0 HB) hb); clear HB; have HB := n0_; clear n0_; (try clear hb); (try clear hk); (try clear hi)) | ((with_reducible refine gate_callee (f := 42) rfl ?_); refine goesL_ (some 15) rfl rfl Try.func42 (by kernel_rfl) rfl #[.int .u64 (IntKind.u64.wrap ((l0.length : Int)))] rfl (by (try simp only [zatan, zatao, zatap]); first | done | rfl | (rw [IntWalk.u64_in ((l0.length : Int)) (by first | omega | (simp only [decide_eq_false_iff_not, decide_eq_true_eq] at *; omega))]; rfl)) ?_; (with_reducible refine (octet_Number.calls k (IntKind.u64.wrap ((l0.length : Int))) t431 _ A4.out).mono ?_); rintro e w6 ⟨rfl, hb⟩; refine ⟨_, rfl, ?_⟩; have n0_ := zataq (below_step (zh0 HB) hb); clear HB; have HB := n0_; clear n0_; (try clear hb); (try clear hk); (try clear hi)))
  go_loopg [4, 18] k (fun kq v4 v18 w' => ∃ (zataw : ByteArray) (zatas : Int), v4 = .string zataw ∧ v18 = .int .i64 zatas ∧ Aside0 (chain_Encode.l0 kq zataw l0 (l0.length : Int) zatas = some (r1, r2)) ∧ Aside0 (kq ≤ k) ∧ Aside0 (Below w.heap.size w w'))
  case atStart => exact ⟨(t431), (0), (by first | rfl | (simp; done) | (simp [*]; done)), (by first | rfl | (simp; done) | (simp [*]; done)), H', ⟨Nat.le_refl _⟩, ⟨zh0 HB⟩⟩
  case round =>
   clear H'
   try clear p2
   try clear c3
   try clear c4
   obtain ⟨zataw, zatas, rfl, rfl, HA, HK1, HB⟩ := hrel
   cases gk with
   | zero => exact absurd HA.out (by simp [chain_Encode.l0])
   | succ k1 =>
    have H := HA.out
    clear HA
    simp only [chain_Encode.l0] at H
    by_cases c7 : zatas < (l0.length : Int)
    ·rw [if_pos c7] at H
     have c7b0 : decide (zatas < (l0.length : Int)) = true := decide_eq_true c7
     clear c7
     by_cases c8 : 0 ≤ zatas
     ·rw [if_pos c8] at H
      have c8b0 : decide (0 ≤ zatas) = true := decide_eq_true c8
      clear c8
      by_cases c9 : zatas < (l0.length : Int)
      ·rw [if_pos c9] at H
       have c9b0 : decide (zatas < (l0.length : Int)) = true := decide_eq_true c9
       clear c9
       replace H := Option.bind_eq_some_iff.mp H
       obtain ⟨t434, A100, H⟩ := H
       replace H : (if zataw.size + t434.size ≤ 9223372036854775807 then (if (rd_T24 l0 zatas).f1 = true then ((octet_Number.f k1 1).bind fun t435 => (if (zataw ++ t434).size + t435.size ≤ 9223372036854775807 then (chain_Encode.l0 k1 ((zataw ++ t434) ++ t435) l0 (l0.length : Int) (wrap64 (zatas + 1))) else (none))) else ((octet_Number.f k1 0).bind fun t436 => ((octet_Number.f k1 (IntKind.u64.wrap ((((rd_T24 l0 zatas).f4).length : Int)))).bind fun t437 => (if t436.size + t437.size ≤ 9223372036854775807 then (if (zataw ++ t434).size + (t436 ++ t437).size ≤ 9223372036854775807 then (chain_Encode.l1 k1 ((zataw ++ t434) ++ (t436 ++ t437)) l0 (l0.length : Int) zatas ((rd_T24 l0 zatas).f4) (((rd_T24 l0 zatas).f4).length : Int) 0 ((rd_T24 l0 zatas).f0) ((rd_T24 l0 zatas).f1) ((rd_T24 l0 zatas).f2) ((rd_T24 l0 zatas).f3) ((rd_T24 l0 zatas).f4)) else (none)) else (none))))) else (none)) = some (r1, r2) := H
       have A10 := zataq A100
       clear A100
       by_cases c11 : zataw.size + t434.size ≤ 9223372036854775807
       ·rw [if_pos c11] at H
        have c11b0 := eq_true c11
        have c11b1 : decide (zataw.size + t434.size ≤ 9223372036854775807) = true := decide_eq_true c11
        try have c11b2 : (9223372036854775807 < zataw.size + t434.size) = False := eq_false (Nat.not_lt.2 c11)
        obtain ⟨bq12, hbq12⟩ : ∃ b_ : Bool, b_ = ((rd_T24 l0 zatas).f1) := ⟨_, rfl⟩
        replace H : (if bq12 = true then ((octet_Number.f k1 1).bind fun t435 => (if (zataw ++ t434).size + t435.size ≤ 9223372036854775807 then (chain_Encode.l0 k1 ((zataw ++ t434) ++ t435) l0 (l0.length : Int) (wrap64 (zatas + 1))) else (none))) else ((octet_Number.f k1 0).bind fun t436 => ((octet_Number.f k1 (IntKind.u64.wrap ((((rd_T24 l0 zatas).f4).length : Int)))).bind fun t437 => (if t436.size + t437.size ≤ 9223372036854775807 then (if (zataw ++ t434).size + (t436 ++ t437).size ≤ 9223372036854775807 then (chain_Encode.l1 k1 ((zataw ++ t434) ++ (t436 ++ t437)) l0 (l0.length : Int) zatas ((rd_T24 l0 zatas).f4) (((rd_T24 l0 zatas).f4).length : Int) 0 ((rd_T24 l0 zatas).f0) bq12 ((rd_T24 l0 zatas).f2) ((rd_T24 l0 zatas).f3) ((rd_T24 l0 zatas).f4)) else (none)) else (none))))) = some (r1, r2) := by rw [← hbq12] at H; exact H
        have Nbq12 := zataq hbq12
        clear hbq12
        by_cases c13 : bq12 = true
        ·subst c13
         have H1 : ((octet_Number.f k1 1).bind fun t435 => (if (zataw ++ t434).size + t435.size ≤ 9223372036854775807 then (chain_Encode.l0 k1 ((zataw ++ t434) ++ t435) l0 (l0.length : Int) (wrap64 (zatas + 1))) else (none))) = some (r1, r2) := by rw [if_pos rfl] at H; exact H
         clear H
         have H := H1
         clear H1
         replace H := Option.bind_eq_some_iff.mp H
         obtain ⟨t435, A140, H⟩ := H
         replace H : (if (zataw ++ t434).size + t435.size ≤ 9223372036854775807 then (chain_Encode.l0 k1 ((zataw ++ t434) ++ t435) l0 (l0.length : Int) (wrap64 (zatas + 1))) else (none)) = some (r1, r2) := H
         have A14 := zataq A140
         clear A140
         by_cases c15 : (zataw ++ t434).size + t435.size ≤ 9223372036854775807
         ·rw [if_pos c15] at H
          have c15b0 := eq_true c15
          have c15b1 : decide ((zataw ++ t434).size + t435.size ≤ 9223372036854775807) = true := decide_eq_true c15
          try have c15b2 : (9223372036854775807 < (zataw ++ t434).size + t435.size) = False := eq_false (Nat.not_lt.2 c15)
          try have c15b3 : (9223372036854775807 < zataw.size + t434.size + t435.size) = False := eq_false (by have q_ := c15; simp only [ByteArray.size_append] at q_; omega)
          have H' := zataq H
          clear H
          have p432 : 0 ≤ (zatas : Int) := of_decide_eq_true (by first | (with_reducible assumption) | assumption)
          have q432 : zatas < (l0.length : Int) := of_decide_eq_true (by first | (with_reducible assumption) | assumption)
          obtain ⟨ad432, A432_4, c432_4, e432, hx432_0, hx432_1, hx432_2, hx432_3, hx432_4, hl432_4, hi432_4⟩ := at_T24 HR0.out zatas p432 q432
          (try rw [← Nbq12.out] at hx432_1)
          cases e432
          replace hx432_0 := (HB.out.cell (zatad w _ hx432_0)).trans hx432_0
          replace hx432_1 := (HB.out.cell (zatad w _ hx432_1)).trans hx432_1
          replace hx432_2 := (HB.out.cell (zatad w _ hx432_2)).trans hx432_2
          replace hx432_3 := (HB.out.cell (zatad w _ hx432_3)).trans hx432_3
          replace hx432_4 := (HB.out.cell (zatad w _ hx432_4)).trans hx432_4
          have HR432_4 := zataq hi432_4
          have HC432_4 := zataq hl432_4
          clear hi432_4 hl432_4
          replace p432 := eq_true p432
          replace q432 := eq_true q432
          go_wp2_with (first | ((with_reducible refine gate_dst (N := 6) rfl ?_); refine box_event ?hg (N := 6) ?hd (cs := #[.int .i64 0, .bool false, .int .i64 0, .string (⟨#[]⟩ : ByteArray), .slice none 0 0]) (t := 24) ?hr ?_; (case hd => rfl); (case hg => rfl); (case hr => first | (go_simp; done) | (go_simp; rfl)); intro zatau hg w16 hbox hb; have n0_ := zataq (below_step (zh0 HB) hb); have n1_ := zataq (hbox); have n2_ := zns hg (zh0 HB); have n3_ := zns hg (zh0 HB); clear HB; have HB := n0_; have zatat := n1_; have zatdj := n2_; have zataz := n3_; clear n0_ n1_ n2_ n3_; clear hb hbox hg; have zatbl : w16.cell? ⟨zatau, 0, none⟩ = some (.int .i64 0) := (zatal zatat.out 0).trans rfl; have zatbm : w16.cell? ⟨zatau, 1, none⟩ = some (.bool false) := (zatal zatat.out 1).trans rfl; have zatbn : w16.cell? ⟨zatau, 2, none⟩ = some (.int .i64 0) := (zatal zatat.out 2).trans rfl; have zatbo : w16.cell? ⟨zatau, 3, none⟩ = some (.string (⟨#[]⟩ : ByteArray)) := (zatal zatat.out 3).trans rfl; have zatbp : w16.cell? ⟨zatau, 4, none⟩ = some (.slice none 0 0) := (zatal zatat.out 4).trans rfl; have zatbq := zatam zatat.out 0; have zatbr := zatam zatat.out 1; have zatbs := zatam zatat.out 2; have zatbt := zatam zatat.out 3; have zatbu := zatam zatat.out 4) | ((with_reducible refine gate_callee (f := 42) rfl ?_); refine goesL_ (some 26) rfl rfl Try.func42 (by kernel_rfl) rfl #[.int .u64 (IntKind.u64.wrap ((rd_T24 l0 zatas).f0))] rfl (by (try simp only [zatan, zatao, zatap]); first | done | rfl | (rw [IntWalk.u64_in ((rd_T24 l0 zatas).f0) (by first | omega | (simp only [decide_eq_false_iff_not, decide_eq_true_eq] at *; omega))]; rfl)) ?_; (with_reducible refine (octet_Number.calls k1 (IntKind.u64.wrap ((rd_T24 l0 zatas).f0)) t434 _ A10.out).mono ?_); rintro e w18 ⟨rfl, hb⟩; refine ⟨_, rfl, ?_⟩; have n0_ := zataq (blk_below (g := zatau) (o := .cells #[.int .i64 ((rd_T24 l0 zatas).f0), .bool true, .int .i64 ((rd_T24 l0 zatas).f2), .string ((rd_T24 l0 zatas).f3), .slice A432_4 ((rd_T24 l0 zatas).f4).length c432_4] 24 (0, 0)) (by (with_reducible repeat (first | refine zatae ?_ _ | refine zatag ?_ | refine zataf ?_ _)); refine blk_put (cs := #[.int .i64 ((rd_T24 l0 zatas).f0), .bool true, .int .i64 ((rd_T24 l0 zatas).f2), .string ((rd_T24 l0 zatas).f3), .slice none 0 0]) ?_ 4 _ rfl; (with_reducible repeat (first | refine zatae ?_ _ | refine zatag ?_ | refine zataf ?_ _)); refine blk_put (cs := #[.int .i64 ((rd_T24 l0 zatas).f0), .bool true, .int .i64 ((rd_T24 l0 zatas).f2), .string (⟨#[]⟩ : ByteArray), .slice none 0 0]) ?_ 3 _ rfl; (with_reducible repeat (first | refine zatae ?_ _ | refine zatag ?_ | refine zataf ?_ _)); refine blk_put (cs := #[.int .i64 ((rd_T24 l0 zatas).f0), .bool true, .int .i64 0, .string (⟨#[]⟩ : ByteArray), .slice none 0 0]) ?_ 2 _ rfl; (with_reducible repeat (first | refine zatae ?_ _ | refine zatag ?_ | refine zataf ?_ _)); refine blk_put (cs := #[.int .i64 ((rd_T24 l0 zatas).f0), .bool false, .int .i64 0, .string (⟨#[]⟩ : ByteArray), .slice none 0 0]) ?_ 1 _ rfl; (with_reducible repeat (first | refine zatae ?_ _ | refine zatag ?_ | refine zataf ?_ _)); refine blk_put (cs := #[.int .i64 0, .bool false, .int .i64 0, .string (⟨#[]⟩ : ByteArray), .slice none 0 0]) ?_ 0 _ rfl; exact zbk zatat) hb); have n1_ := zataq (below_step (zh1 HB zataz) hb); clear zatat; clear HB; have zatat := n0_; have HB := n1_; clear n0_ n1_; (try clear hb); (try clear hk); (try clear hi); have zatbv : w18.cell? ⟨zatau, 0, none⟩ = some (.int .i64 ((rd_T24 l0 zatas).f0)) := (zatal zatat.out 0).trans rfl; have zatbw : w18.cell? ⟨zatau, 1, none⟩ = some (.bool true) := (zatal zatat.out 1).trans rfl; have zatbx : w18.cell? ⟨zatau, 2, none⟩ = some (.int .i64 ((rd_T24 l0 zatas).f2)) := (zatal zatat.out 2).trans rfl; have zatby : w18.cell? ⟨zatau, 3, none⟩ = some (.string ((rd_T24 l0 zatas).f3)) := (zatal zatat.out 3).trans rfl; have zatbz : w18.cell? ⟨zatau, 4, none⟩ = some (.slice A432_4 ((rd_T24 l0 zatas).f4).length c432_4) := (zatal zatat.out 4).trans rfl; have zatca := zatam zatat.out 0; have zatcb := zatam zatat.out 1; have zatcc := zatam zatat.out 2; have zatcd := zatam zatat.out 3; have zatce := zatam zatat.out 4) | ((with_reducible refine gate_callee (f := 42) rfl ?_); refine goesL_ (some 31) rfl rfl Try.func42 (by kernel_rfl) rfl #[.int .u64 1] rfl (by (try simp only [zatan, zatao, zatap]); first | done | rfl) ?_; (with_reducible refine (octet_Number.calls k1 1 t435 _ A14.out).mono ?_); rintro e w20 ⟨rfl, hb⟩; refine ⟨_, rfl, ?_⟩; have n0_ := zbb zatat hb; have n1_ := zataq (below_step (zh1 HB zataz) hb); clear zatat; clear HB; have zatat := n0_; have HB := n1_; clear n0_ n1_; (try clear hb); (try clear hk); (try clear hi)))
          go_roundg k1
          case measure => have := HK1.out; omega
          case rel => exact ⟨((zataw ++ t434) ++ t435), (wrap64 (zatas + 1)), (by first | rfl | (simp; done) | (simp [*]; done)), (by first | rfl | (simp; done) | (simp [*]; done)), H', ⟨by have := HK1.out; omega⟩, ⟨zh1 HB zataz⟩⟩
         ·rw [if_neg c15] at H
          exact absurd H (by simp)
        ·replace c13 := Bool.eq_false_iff.mpr c13
         subst c13
         have H1 : ((octet_Number.f k1 0).bind fun t436 => ((octet_Number.f k1 (IntKind.u64.wrap ((((rd_T24 l0 zatas).f4).length : Int)))).bind fun t437 => (if t436.size + t437.size ≤ 9223372036854775807 then (if (zataw ++ t434).size + (t436 ++ t437).size ≤ 9223372036854775807 then (chain_Encode.l1 k1 ((zataw ++ t434) ++ (t436 ++ t437)) l0 (l0.length : Int) zatas ((rd_T24 l0 zatas).f4) (((rd_T24 l0 zatas).f4).length : Int) 0 ((rd_T24 l0 zatas).f0) false ((rd_T24 l0 zatas).f2) ((rd_T24 l0 zatas).f3) ((rd_T24 l0 zatas).f4)) else (none)) else (none)))) = some (r1, r2) := by rw [if_neg (show ¬ (false = true) by decide)] at H; exact H
         clear H
         have H := H1
         clear H1
         replace H := Option.bind_eq_some_iff.mp H
         obtain ⟨t436, A210, H⟩ := H
         replace H : ((octet_Number.f k1 (IntKind.u64.wrap ((((rd_T24 l0 zatas).f4).length : Int)))).bind fun t437 => (if t436.size + t437.size ≤ 9223372036854775807 then (if (zataw ++ t434).size + (t436 ++ t437).size ≤ 9223372036854775807 then (chain_Encode.l1 k1 ((zataw ++ t434) ++ (t436 ++ t437)) l0 (l0.length : Int) zatas ((rd_T24 l0 zatas).f4) (((rd_T24 l0 zatas).f4).length : Int) 0 ((rd_T24 l0 zatas).f0) false ((rd_T24 l0 zatas).f2) ((rd_T24 l0 zatas).f3) ((rd_T24 l0 zatas).f4)) else (none)) else (none))) = some (r1, r2) := H
         have A21 := zataq A210
         clear A210
         replace H := Option.bind_eq_some_iff.mp H
         obtain ⟨t437, A220, H⟩ := H
         replace H : (if t436.size + t437.size ≤ 9223372036854775807 then (if (zataw ++ t434).size + (t436 ++ t437).size ≤ 9223372036854775807 then (chain_Encode.l1 k1 ((zataw ++ t434) ++ (t436 ++ t437)) l0 (l0.length : Int) zatas ((rd_T24 l0 zatas).f4) (((rd_T24 l0 zatas).f4).length : Int) 0 ((rd_T24 l0 zatas).f0) false ((rd_T24 l0 zatas).f2) ((rd_T24 l0 zatas).f3) ((rd_T24 l0 zatas).f4)) else (none)) else (none)) = some (r1, r2) := H
         have A22 := zataq A220
         clear A220
         by_cases c23 : t436.size + t437.size ≤ 9223372036854775807
         ·rw [if_pos c23] at H
          have c23b0 := eq_true c23
          have c23b1 : decide (t436.size + t437.size ≤ 9223372036854775807) = true := decide_eq_true c23
          try have c23b2 : (9223372036854775807 < t436.size + t437.size) = False := eq_false (Nat.not_lt.2 c23)
          by_cases c24 : (zataw ++ t434).size + (t436 ++ t437).size ≤ 9223372036854775807
          ·rw [if_pos c24] at H
           have c24b0 := eq_true c24
           have c24b1 : decide ((zataw ++ t434).size + (t436 ++ t437).size ≤ 9223372036854775807) = true := decide_eq_true c24
           try have c24b2 : (9223372036854775807 < (zataw ++ t434).size + (t436 ++ t437).size) = False := eq_false (Nat.not_lt.2 c24)
           try have c24b3 : (9223372036854775807 < zataw.size + t434.size + (t436.size + t437.size)) = False := eq_false (by have q_ := c24; simp only [ByteArray.size_append] at q_; omega)
           have H' := zataq H
           clear H
           have p432 : 0 ≤ (zatas : Int) := of_decide_eq_true (by first | (with_reducible assumption) | assumption)
           have q432 : zatas < (l0.length : Int) := of_decide_eq_true (by first | (with_reducible assumption) | assumption)
           obtain ⟨ad432, A432_4, c432_4, e432, hx432_0, hx432_1, hx432_2, hx432_3, hx432_4, hl432_4, hi432_4⟩ := at_T24 HR0.out zatas p432 q432
           (try rw [← Nbq12.out] at hx432_1)
           cases e432
           replace hx432_0 := (HB.out.cell (zatad w _ hx432_0)).trans hx432_0
           replace hx432_1 := (HB.out.cell (zatad w _ hx432_1)).trans hx432_1
           replace hx432_2 := (HB.out.cell (zatad w _ hx432_2)).trans hx432_2
           replace hx432_3 := (HB.out.cell (zatad w _ hx432_3)).trans hx432_3
           replace hx432_4 := (HB.out.cell (zatad w _ hx432_4)).trans hx432_4
           have HR432_4 := zataq hi432_4
           have HC432_4 := zataq hl432_4
           clear hi432_4 hl432_4
           replace p432 := eq_true p432
           replace q432 := eq_true q432
           try go_wp2_with (first | ((with_reducible refine gate_dst (N := 6) rfl ?_); refine box_event ?hg (N := 6) ?hd (cs := #[.int .i64 0, .bool false, .int .i64 0, .string (⟨#[]⟩ : ByteArray), .slice none 0 0]) (t := 24) ?hr ?_; (case hd => rfl); (case hg => rfl); (case hr => first | (go_simp; done) | (go_simp; rfl)); intro zatau hg w25 hbox hb; have n0_ := zataq (below_step (zh0 HB) hb); have n1_ := zataq (hbox); have n2_ := zns hg (zh0 HB); have n3_ := zns hg (zh0 HB); clear HB; have HB := n0_; have zatat := n1_; have zatdj := n2_; have zataz := n3_; clear n0_ n1_ n2_ n3_; clear hb hbox hg; have zatcf : w25.cell? ⟨zatau, 0, none⟩ = some (.int .i64 0) := (zatal zatat.out 0).trans rfl; have zatcg : w25.cell? ⟨zatau, 1, none⟩ = some (.bool false) := (zatal zatat.out 1).trans rfl; have zatch : w25.cell? ⟨zatau, 2, none⟩ = some (.int .i64 0) := (zatal zatat.out 2).trans rfl; have zatci : w25.cell? ⟨zatau, 3, none⟩ = some (.string (⟨#[]⟩ : ByteArray)) := (zatal zatat.out 3).trans rfl; have zatcj : w25.cell? ⟨zatau, 4, none⟩ = some (.slice none 0 0) := (zatal zatat.out 4).trans rfl; have zatck := zatam zatat.out 0; have zatcl := zatam zatat.out 1; have zatcm := zatam zatat.out 2; have zatcn := zatam zatat.out 3; have zatco := zatam zatat.out 4) | ((with_reducible refine gate_callee (f := 42) rfl ?_); refine goesL_ (some 26) rfl rfl Try.func42 (by kernel_rfl) rfl #[.int .u64 (IntKind.u64.wrap ((rd_T24 l0 zatas).f0))] rfl (by (try simp only [zatan, zatao, zatap]); first | done | rfl | (rw [IntWalk.u64_in ((rd_T24 l0 zatas).f0) (by first | omega | (simp only [decide_eq_false_iff_not, decide_eq_true_eq] at *; omega))]; rfl)) ?_; (with_reducible refine (octet_Number.calls k1 (IntKind.u64.wrap ((rd_T24 l0 zatas).f0)) t434 _ A10.out).mono ?_); rintro e w27 ⟨rfl, hb⟩; refine ⟨_, rfl, ?_⟩; have n0_ := zataq (blk_below (g := zatau) (o := .cells #[.int .i64 ((rd_T24 l0 zatas).f0), .bool false, .int .i64 ((rd_T24 l0 zatas).f2), .string ((rd_T24 l0 zatas).f3), .slice A432_4 ((rd_T24 l0 zatas).f4).length c432_4] 24 (0, 0)) (by (with_reducible repeat (first | refine zatae ?_ _ | refine zatag ?_ | refine zataf ?_ _)); refine blk_put (cs := #[.int .i64 ((rd_T24 l0 zatas).f0), .bool false, .int .i64 ((rd_T24 l0 zatas).f2), .string ((rd_T24 l0 zatas).f3), .slice none 0 0]) ?_ 4 _ rfl; (with_reducible repeat (first | refine zatae ?_ _ | refine zatag ?_ | refine zataf ?_ _)); refine blk_put (cs := #[.int .i64 ((rd_T24 l0 zatas).f0), .bool false, .int .i64 ((rd_T24 l0 zatas).f2), .string (⟨#[]⟩ : ByteArray), .slice none 0 0]) ?_ 3 _ rfl; (with_reducible repeat (first | refine zatae ?_ _ | refine zatag ?_ | refine zataf ?_ _)); refine blk_put (cs := #[.int .i64 ((rd_T24 l0 zatas).f0), .bool false, .int .i64 0, .string (⟨#[]⟩ : ByteArray), .slice none 0 0]) ?_ 2 _ rfl; (with_reducible repeat (first | refine zatae ?_ _ | refine zatag ?_ | refine zataf ?_ _)); refine blk_put (cs := #[.int .i64 ((rd_T24 l0 zatas).f0), .bool false, .int .i64 0, .string (⟨#[]⟩ : ByteArray), .slice none 0 0]) ?_ 1 _ rfl; (with_reducible repeat (first | refine zatae ?_ _ | refine zatag ?_ | refine zataf ?_ _)); refine blk_put (cs := #[.int .i64 0, .bool false, .int .i64 0, .string (⟨#[]⟩ : ByteArray), .slice none 0 0]) ?_ 0 _ rfl; exact zbk zatat) hb); have n1_ := zataq (below_step (zh1 HB zataz) hb); clear zatat; clear HB; have zatat := n0_; have HB := n1_; clear n0_ n1_; (try clear hb); (try clear hk); (try clear hi); have zatcp : w27.cell? ⟨zatau, 0, none⟩ = some (.int .i64 ((rd_T24 l0 zatas).f0)) := (zatal zatat.out 0).trans rfl; have zatcq : w27.cell? ⟨zatau, 1, none⟩ = some (.bool false) := (zatal zatat.out 1).trans rfl; have zatcr : w27.cell? ⟨zatau, 2, none⟩ = some (.int .i64 ((rd_T24 l0 zatas).f2)) := (zatal zatat.out 2).trans rfl; have zatcs : w27.cell? ⟨zatau, 3, none⟩ = some (.string ((rd_T24 l0 zatas).f3)) := (zatal zatat.out 3).trans rfl; have zatct : w27.cell? ⟨zatau, 4, none⟩ = some (.slice A432_4 ((rd_T24 l0 zatas).f4).length c432_4) := (zatal zatat.out 4).trans rfl; have zatcu := zatam zatat.out 0; have zatcv := zatam zatat.out 1; have zatcw := zatam zatat.out 2; have zatcx := zatam zatat.out 3; have zatcy := zatam zatat.out 4))
           have n0_ := zataq (zatag zatat.out)
           have n1_ := zataq (zataj HB.out)
           clear zatat
           clear HB
           have zatat := n0_
           have HB := n1_
           clear n0_ n1_
           refine start_ (n := 10) (S := fun w' => w'.cell? ⟨zatau, 0, none⟩ = some (.int .i64 ((rd_T24 l0 zatas).f0)) ∧ w'.cell? ⟨zatau, 1, none⟩ = some (.bool false) ∧ w'.cell? ⟨zatau, 2, none⟩ = some (.int .i64 ((rd_T24 l0 zatas).f2)) ∧ w'.cell? ⟨zatau, 3, none⟩ = some (.string ((rd_T24 l0 zatas).f3)) ∧ w'.cell? ⟨zatau, 4, none⟩ = some (.slice A432_4 ((rd_T24 l0 zatas).f4).length c432_4)) (ds := []) zatsq0 (by kernel_rfl) rfl rfl ⟨(zatal zatat.out 0).trans rfl, (zatal zatat.out 1).trans rfl, (zatal zatat.out 2).trans rfl, (zatal zatat.out 3).trans rfl, (zatal zatat.out 4).trans rfl⟩ (fun hHeld => ?_); refine with_tabW chain_Encode.tab10 chain_Encode.bits10 (fun HT_ HW_ => ?_)
           generalize w27.drew = w29 at zatat HB hHeld ⊢
           refine pure_ (i := 0) (N := some 33) (v := ?_) (a' := ?_) zatsq1 rfl rfl (any_of HT_.out (by kernel_rfl)) (fun _ _ _ h => h) (Or.inl ⟨by rfl, ?_⟩) ?_ ?_
           rotate_left
           ·intro w'
            go_simp
            with_reducible rfl
           rotate_left
           ·simp only [Act.put, zataa, zatab, zatac, i64_w, i32_w]
            rfl
           refine pure_ (i := 2) (N := some 35) (v := ?_) (a' := ?_) zatsq2 rfl rfl (any_of HT_.out (by kernel_rfl)) (fun _ _ _ h => h) (Or.inl ⟨by rfl, ?_⟩) ?_ ?_
           rotate_left
           ·intro w'
            go_simp
            with_reducible rfl
           rotate_left
           ·simp only [Act.put, zataa, zatab, zatac, i64_w, i32_w]
            rfl
           refine take_ (i := 3) (N := some 36) (v := ?_) (a' := ?_) zatsq3 rfl rfl (take_ofW HT_.out HW_.out (by kernel_rfl)) (fun _ _ _ h => h) (Or.inl ⟨by rfl, ?_⟩) hHeld ?_ ?_
           rotate_left
           ·rintro w' ⟨s0, s1, s2, s3, s4⟩
            go_simp
            with_reducible rfl
           rotate_left
           ·simp only [Act.put, zataa, zatab, zatac, i64_w, i32_w]
            rfl
           refine pure_ (i := 4) (N := some 37) (v := ?_) (a' := ?_) zatsq4 rfl rfl (any_of HT_.out (by kernel_rfl)) (fun _ _ _ h => h) (Or.inl ⟨by rfl, ?_⟩) ?_ ?_
           rotate_left
           ·intro w'
            go_simp
            with_reducible rfl
           rotate_left
           ·simp only [Act.put, zataa, zatab, zatac, i64_w, i32_w]
            rfl
           refine pure_ (i := 5) (N := some 38) (v := ?_) (a' := ?_) zatsq5 rfl rfl (any_of HT_.out (by kernel_rfl)) (fun _ _ _ h => h) (Or.inl ⟨by rfl, ?_⟩) ?_ ?_
           rotate_left
           ·intro w'
            go_simp
            with_reducible rfl
           rotate_left
           ·simp only [Act.put, zataa, zatab, zatac, i64_w, i32_w]
            rfl
           refine one_ (i := 1) (N := some 34) zatsq6 rfl rfl (one_of HT_.out (by kernel_rfl)) (by decide) (fun K hK => ?_)
           refine goes_ Try.func42 (by kernel_rfl) rfl #[.int .u64 0] (by rfl) rfl rfl (by (try simp only [zatan, zatao, zatap]); first | done | rfl) ?_
           with_reducible refine (octet_Number.calls k1 0 t436 _ A21.out).mono ?_
           rintro e w30 ⟨rfl, hb⟩
           refine ⟨_, rfl, ?_⟩
           have n0_ := zbb zatat hb
           have n1_ := zataq (below_step (zh1 HB zataz) hb)
           clear zatat
           clear HB
           have zatat := n0_
           have HB := n1_
           clear n0_ n1_
           (try clear hb)
           (try clear hb2)
           (try clear hk)
           (try clear hi)
           refine hK.out _ _ ⟨(zatal zatat.out 0).trans rfl, (zatal zatat.out 1).trans rfl, (zatal zatat.out 2).trans rfl, (zatal zatat.out 3).trans rfl, (zatal zatat.out 4).trans rfl⟩ (fun hHeld => ?_)
           clear hK K
           refine norm_ (a' := ?_) ?_ ?_
           rotate_left
           ·show Act.put _ (some 34) _ = _
            simp only [Act.put, zataa, zatab, zatac, i64_w, i32_w]
            rfl
           refine one_ (i := 6) (N := some 39) zatsq7 rfl rfl (one_of HT_.out (by kernel_rfl)) (by decide) (fun K hK => ?_)
           refine goes_ Try.func42 (by kernel_rfl) rfl #[.int .u64 (IntKind.u64.wrap ((((rd_T24 l0 zatas).f4).length : Int)))] (by rfl) rfl rfl (by (try simp only [zatan, zatao, zatap]); first | done | rfl) ?_
           with_reducible refine (octet_Number.calls k1 (IntKind.u64.wrap ((((rd_T24 l0 zatas).f4).length : Int))) t437 _ A22.out).mono ?_
           rintro e w31 ⟨rfl, hb⟩
           refine ⟨_, rfl, ?_⟩
           have n0_ := zbb zatat hb
           have n1_ := zataq (below_step (zh1 HB zataz) hb)
           clear zatat
           clear HB
           have zatat := n0_
           have HB := n1_
           clear n0_ n1_
           (try clear hb)
           (try clear hb2)
           (try clear hk)
           (try clear hi)
           refine hK.out _ _ ⟨(zatal zatat.out 0).trans rfl, (zatal zatat.out 1).trans rfl, (zatal zatat.out 2).trans rfl, (zatal zatat.out 3).trans rfl, (zatal zatat.out 4).trans rfl⟩ (fun hHeld => ?_)
           clear hK K
           refine norm_ (a' := ?_) ?_ ?_
           rotate_left
           ·show Act.put _ (some 39) _ = _
            simp only [Act.put, zataa, zatab, zatac, i64_w, i32_w]
            rfl
           refine pure_ (i := 7) (N := some 40) (v := ?_) (a' := ?_) zatsq8 rfl rfl (any_of HT_.out (by kernel_rfl)) (fun _ _ _ h => h) (Or.inl ⟨by rfl, ?_⟩) ?_ ?_
           rotate_left
           ·intro w'
            go_simp
            with_reducible rfl
           rotate_left
           ·simp only [Act.put, zataa, zatab, zatac, i64_w, i32_w]
            rfl
           refine pure_ (i := 8) (N := some 41) (v := ?_) (a' := ?_) zatsq9 rfl rfl (any_of HT_.out (by kernel_rfl)) (fun _ _ _ h => h) (Or.inl ⟨by rfl, ?_⟩) ?_ ?_
           rotate_left
           ·intro w'
            go_simp
            with_reducible rfl
           rotate_left
           ·simp only [Act.put, zataa, zatab, zatac, i64_w, i32_w]
            rfl
           refine pure_ (i := 9) (N := some 4) (v := ?_) (a' := ?_) zatsq10 rfl rfl (any_of HT_.out (by kernel_rfl)) (fun _ _ _ h => h) (Or.inl ⟨by rfl, ?_⟩) ?_ ?_
           rotate_left
           ·intro w'
            go_simp
            with_reducible rfl
           rotate_left
           ·simp only [Act.put, zataa, zatab, zatac, i64_w, i32_w]
            rfl
           refine done_ (done_of HT_.out (by kernel_rfl)) ?_
           have zatcz : w31.cell? ⟨zatau, 0, none⟩ = some (.int .i64 ((rd_T24 l0 zatas).f0)) := (zatal zatat.out 0).trans rfl
           have zatda : w31.cell? ⟨zatau, 1, none⟩ = some (.bool false) := (zatal zatat.out 1).trans rfl
           have zatdb : w31.cell? ⟨zatau, 2, none⟩ = some (.int .i64 ((rd_T24 l0 zatas).f2)) := (zatal zatat.out 2).trans rfl
           have zatdc : w31.cell? ⟨zatau, 3, none⟩ = some (.string ((rd_T24 l0 zatas).f3)) := (zatal zatat.out 3).trans rfl
           have zatdd : w31.cell? ⟨zatau, 4, none⟩ = some (.slice A432_4 ((rd_T24 l0 zatas).f4).length c432_4) := (zatal zatat.out 4).trans rfl
           have zatde := zatam zatat.out 0
           have zatdf := zatam zatat.out 1
           have zatdg := zatam zatat.out 2
           have zatdh := zatam zatat.out 3
           have zatdi := zatam zatat.out 4
           try go_wp2
           go_loopg [4, 45] k1 (fun kq v4 v45 w' => ∃ (zatba : ByteArray) (zatav : Int), v4 = .string zatba ∧ v45 = .int .i64 zatav ∧ Aside0 (chain_Encode.l1 kq zatba l0 (l0.length : Int) zatas ((rd_T24 l0 zatas).f4) (((rd_T24 l0 zatas).f4).length : Int) zatav ((rd_T24 l0 zatas).f0) false ((rd_T24 l0 zatas).f2) ((rd_T24 l0 zatas).f3) ((rd_T24 l0 zatas).f4) = some (r1, r2)) ∧ Aside0 (kq ≤ k1) ∧ Aside0 (w'.heap[zatau]? = some (.cells #[.int .i64 ((rd_T24 l0 zatas).f0), .bool false, .int .i64 ((rd_T24 l0 zatas).f2), .string ((rd_T24 l0 zatas).f3), (.slice A432_4 ((rd_T24 l0 zatas).f4).length c432_4)] 24 (0, 0))) ∧ Aside0 (Below w.heap.size w w'))
           case atStart => exact ⟨((zataw ++ t434) ++ (t436 ++ t437)), (0), (by first | rfl | (simp; done) | (simp [*]; done)), (by first | rfl | (simp; done) | (simp [*]; done)), H', ⟨Nat.le_refl _⟩, ⟨zbk zatat⟩, ⟨zh1 HB zataz⟩⟩
           case round =>
            clear H'
            try clear c1
            try clear q1
            try clear c2
            try clear p2
            try clear c3
            try clear c4
            try clear p4
            try clear q4
            try clear hx4
            try clear p6
            try clear c7
            try clear c7b0
            try clear c8
            try clear c8b0
            try clear c9
            try clear c9b0
            try clear c11
            try clear c11b0
            try clear c11b1
            try clear c11b2
            try clear q12
            try clear c13
            try clear c15
            try clear c15b0
            try clear c15b1
            try clear c15b2
            try clear c23
            try clear c23b0
            try clear c23b1
            try clear c23b2
            try clear c24
            try clear c24b0
            try clear c24b1
            try clear c24b2
            try clear c30
            try clear zatbl
            try clear zatbm
            try clear zatbn
            try clear zatbo
            try clear zatbp
            try clear zatbv
            try clear zatbw
            try clear zatbx
            try clear zatby
            try clear zatbz
            try clear zatcf
            try clear zatcg
            try clear zatch
            try clear zatci
            try clear zatcj
            try clear zatcp
            try clear zatcq
            try clear zatcr
            try clear zatcs
            try clear zatct
            try clear zatcz
            try clear zatda
            try clear zatdb
            try clear zatdc
            try clear zatdd
            try clear zatbq
            try clear zatbr
            try clear zatbs
            try clear zatbt
            try clear zatbu
            try clear zatca
            try clear zatcb
            try clear zatcc
            try clear zatcd
            try clear zatce
            try clear zatck
            try clear zatcl
            try clear zatcm
            try clear zatcn
            try clear zatco
            try clear zatcu
            try clear zatcv
            try clear zatcw
            try clear zatcx
            try clear zatcy
            try clear zatde
            try clear zatdf
            try clear zatdg
            try clear zatdh
            try clear zatdi
            try clear hx432_0
            try clear hx432_1
            try clear hx432_2
            try clear hx432_3
            try clear hx432_4
            try clear p2
            try clear p432
            try clear q432
            obtain ⟨zatba, zatav, rfl, rfl, HA, HK2, zatat, HB⟩ := hrel
            cases gk with
            | zero => exact absurd HA.out (by simp [chain_Encode.l1])
            | succ k2 =>
             have H := HA.out
             clear HA
             simp only [chain_Encode.l1] at H
             by_cases c33 : zatav < (((rd_T24 l0 zatas).f4).length : Int)
             ·rw [if_pos c33] at H
              have c33b0 : decide (zatav < (((rd_T24 l0 zatas).f4).length : Int)) = true := decide_eq_true c33
              clear c33
              by_cases c34 : 0 ≤ zatav
              ·rw [if_pos c34] at H
               have c34b0 : decide (0 ≤ zatav) = true := decide_eq_true c34
               clear c34
               by_cases c35 : zatav < (((rd_T24 l0 zatas).f4).length : Int)
               ·rw [if_pos c35] at H
                have c35b0 : decide (zatav < (((rd_T24 l0 zatas).f4).length : Int)) = true := decide_eq_true c35
                clear c35
                replace H := Option.bind_eq_some_iff.mp H
                obtain ⟨t440, A360, H⟩ := H
                replace H : ((octet_Number.f k2 (IntKind.u64.wrap ((rd_T72 ((rd_T24 l0 zatas).f4) zatav).f1))).bind fun t441 => (if t440.size + t441.size ≤ 9223372036854775807 then (if zatba.size + (t440 ++ t441).size ≤ 9223372036854775807 then (chain_Encode.l1 k2 (zatba ++ (t440 ++ t441)) l0 (l0.length : Int) zatas ((rd_T24 l0 zatas).f4) (((rd_T24 l0 zatas).f4).length : Int) (wrap64 (zatav + 1)) ((rd_T24 l0 zatas).f0) false ((rd_T24 l0 zatas).f2) ((rd_T24 l0 zatas).f3) ((rd_T24 l0 zatas).f4)) else (none)) else (none))) = some (r1, r2) := H
                have A36 := zataq A360
                clear A360
                replace H := Option.bind_eq_some_iff.mp H
                obtain ⟨t441, A370, H⟩ := H
                replace H : (if t440.size + t441.size ≤ 9223372036854775807 then (if zatba.size + (t440 ++ t441).size ≤ 9223372036854775807 then (chain_Encode.l1 k2 (zatba ++ (t440 ++ t441)) l0 (l0.length : Int) zatas ((rd_T24 l0 zatas).f4) (((rd_T24 l0 zatas).f4).length : Int) (wrap64 (zatav + 1)) ((rd_T24 l0 zatas).f0) false ((rd_T24 l0 zatas).f2) ((rd_T24 l0 zatas).f3) ((rd_T24 l0 zatas).f4)) else (none)) else (none)) = some (r1, r2) := H
                have A37 := zataq A370
                clear A370
                by_cases c38 : t440.size + t441.size ≤ 9223372036854775807
                ·rw [if_pos c38] at H
                 have c38b0 := eq_true c38
                 have c38b1 : decide (t440.size + t441.size ≤ 9223372036854775807) = true := decide_eq_true c38
                 try have c38b2 : (9223372036854775807 < t440.size + t441.size) = False := eq_false (Nat.not_lt.2 c38)
                 by_cases c39 : zatba.size + (t440 ++ t441).size ≤ 9223372036854775807
                 ·rw [if_pos c39] at H
                  have c39b0 := eq_true c39
                  have c39b1 : decide (zatba.size + (t440 ++ t441).size ≤ 9223372036854775807) = true := decide_eq_true c39
                  try have c39b2 : (9223372036854775807 < zatba.size + (t440 ++ t441).size) = False := eq_false (Nat.not_lt.2 c39)
                  try have c39b3 : (9223372036854775807 < zatba.size + (t440.size + t441.size)) = False := eq_false (by have q_ := c39; simp only [ByteArray.size_append] at q_; omega)
                  have H' := zataq H
                  clear H
                  have p438 : 0 ≤ (zatav : Int) := of_decide_eq_true (by first | (with_reducible assumption) | assumption)
                  have q438 : zatav < (((rd_T24 l0 zatas).f4).length : Int) := of_decide_eq_true (by first | (with_reducible assumption) | assumption)
                  obtain ⟨ad438, e438, hx438_0, hx438_1⟩ := at_T72 HR432_4.out zatav p438 q438
                  cases e438
                  replace hx438_0 := (HB.out.cell (zatad w _ hx438_0)).trans hx438_0
                  replace hx438_1 := (HB.out.cell (zatad w _ hx438_1)).trans hx438_1
                  replace p438 := eq_true p438
                  replace q438 := eq_true q438
                  try go_wp2_with (first | ((with_reducible refine gate_dst (N := 8) rfl ?_); refine box_event ?hg (N := 8) ?hd (cs := #[.string (⟨#[]⟩ : ByteArray), .int .i64 0]) (t := 72) ?hr ?_; (case hd => rfl); (case hg => rfl); (case hr => first | (go_simp; done) | (go_simp; rfl)); intro zatay hg w40 hbox hb; have n0_ := zbb zatat hb; have n1_ := zataq (below_step (zh1 HB zataz) hb); have n2_ := zataq (hbox); have n3_ := zns hg (zh1 HB zataz); have n4_ := zns hg (zh1 HB zataz); have n5_ := zataq ((by rw [hg]; exact Nat.ne_of_lt (blk_lt (g := zatau) (o := .cells #[.int .i64 ((rd_T24 l0 zatas).f0), .bool false, .int .i64 ((rd_T24 l0 zatas).f2), .string ((rd_T24 l0 zatas).f3), .slice (some ad438) ((rd_T24 l0 zatas).f4).length c432_4] 24 (0, 0)) (zbk zatat)) : zatau ≠ zatay)); have n6_ := zataq ((by rw [hg]; exact Nat.ne_of_gt (blk_lt (g := zatau) (o := .cells #[.int .i64 ((rd_T24 l0 zatas).f0), .bool false, .int .i64 ((rd_T24 l0 zatas).f2), .string ((rd_T24 l0 zatas).f3), .slice (some ad438) ((rd_T24 l0 zatas).f4).length c432_4] 24 (0, 0)) (zbk zatat)) : zatay ≠ zatau)); clear zatat; clear HB; have zatat := n0_; have HB := n1_; have zatax := n2_; have zatdy := n3_; have zatbe := n4_; have zatbd := n5_; have zatbg := n6_; clear n0_ n1_ n2_ n3_ n4_ n5_ n6_; clear hb hbox hg; have hnb41 := zatbg.out; have hnc41 := zatbd.out; have zatdk : w40.cell? ⟨zatay, 0, none⟩ = some (.string (⟨#[]⟩ : ByteArray)) := (zatal zatax.out 0).trans rfl; have zatdl : w40.cell? ⟨zatay, 1, none⟩ = some (.int .i64 0) := (zatal zatax.out 1).trans rfl; have zatdm := zatam zatax.out 0; have zatdn := zatam zatax.out 1))
                  have n0_ : Aside0 (((w40.setCell ⟨zatay, 0, none⟩ (.string ((rd_T72 ((rd_T24 l0 zatas).f4) zatav).f0))).setCell ⟨zatay, 1, none⟩ (.int .i64 ((rd_T72 ((rd_T24 l0 zatas).f4) zatav).f1))).heap[zatau]? = some (.cells #[.int .i64 ((rd_T24 l0 zatas).f0), .bool false, .int .i64 ((rd_T24 l0 zatas).f2), .string ((rd_T24 l0 zatas).f3), .slice (some ad438) ((rd_T24 l0 zatas).f4).length c432_4] 24 (0, 0))) := ⟨by (iterate 2 ((with_reducible repeat (first | refine zatae ?_ _ | refine zatag ?_ | refine zataf ?_ _)); refine blk_far ?_ zatbd.out _)); exact zbk zatat⟩
                  have n1_ : Aside0 (((w40.setCell ⟨zatay, 0, none⟩ (.string ((rd_T72 ((rd_T24 l0 zatas).f4) zatav).f0))).setCell ⟨zatay, 1, none⟩ (.int .i64 ((rd_T72 ((rd_T24 l0 zatas).f4) zatav).f1))).heap[zatay]? = some (.cells #[.string ((rd_T72 ((rd_T24 l0 zatas).f4) zatav).f0), .int .i64 ((rd_T72 ((rd_T24 l0 zatas).f4) zatav).f1)] 72 (0, 0))) := ⟨by (with_reducible repeat (first | refine zatae ?_ _ | refine zatag ?_ | refine zataf ?_ _)); refine blk_put (cs := #[.string ((rd_T72 ((rd_T24 l0 zatas).f4) zatav).f0), .int .i64 0]) ?_ 1 _ rfl; (with_reducible repeat (first | refine zatae ?_ _ | refine zatag ?_ | refine zataf ?_ _)); refine blk_put (cs := #[.string (⟨#[]⟩ : ByteArray), .int .i64 0]) ?_ 0 _ rfl; exact zbk zatax⟩
                  have n2_ : Aside0 (Below w.heap.size w ((w40.setCell ⟨zatay, 0, none⟩ (.string ((rd_T72 ((rd_T24 l0 zatas).f4) zatav).f0))).setCell ⟨zatay, 1, none⟩ (.int .i64 ((rd_T72 ((rd_T24 l0 zatas).f4) zatav).f1)))) := ⟨zh2 HB zataz zatbe⟩
                  (try clear zatat)
                  (try clear zatax)
                  (try clear HB)
                  generalize ((w40.setCell ⟨zatay, 0, none⟩ (.string ((rd_T72 ((rd_T24 l0 zatas).f4) zatav).f0))).setCell ⟨zatay, 1, none⟩ (.int .i64 ((rd_T72 ((rd_T24 l0 zatas).f4) zatav).f1))) = w43 at n0_ n1_ n2_ ⊢
                  have zatat := n0_
                  have zatax := n1_
                  have HB := n2_
                  clear n0_ n1_ n2_
                  have n0_ := zataq (zatag zatat.out)
                  have n1_ := zataq (zatag zatax.out)
                  have n2_ := zataq (zataj HB.out)
                  clear zatat
                  clear zatax
                  clear HB
                  have zatat := n0_
                  have zatax := n1_
                  have HB := n2_
                  clear n0_ n1_ n2_
                  refine start_ (n := 11) (S := fun w' => w'.cell? ⟨zatay, 0, none⟩ = some (.string ((rd_T72 ((rd_T24 l0 zatas).f4) zatav).f0)) ∧ w'.cell? ⟨zatay, 1, none⟩ = some (.int .i64 ((rd_T72 ((rd_T24 l0 zatas).f4) zatav).f1))) (ds := []) zatsq11 (by kernel_rfl) rfl rfl ⟨(zatal zatax.out 0).trans rfl, (zatal zatax.out 1).trans rfl⟩ (fun hHeld => ?_); refine with_tabW chain_Encode.tab14 chain_Encode.bits14 (fun HT_ HW_ => ?_)
                  generalize w43.drew = w44 at zatat zatax HB hHeld ⊢
                  refine pure_ (i := 0) (N := some 49) (v := ?_) (a' := ?_) zatsq12 rfl rfl (any_of HT_.out (by kernel_rfl)) (fun _ _ _ h => h) (Or.inl ⟨by rfl, ?_⟩) ?_ ?_
                  rotate_left
                  ·intro w'
                   go_simp
                   with_reducible rfl
                  rotate_left
                  ·simp only [Act.put, zataa, zatab, zatac, i64_w, i32_w]
                   rfl
                  refine pure_ (i := 1) (N := some 50) (v := ?_) (a' := ?_) zatsq13 rfl rfl (any_of HT_.out (by kernel_rfl)) (fun _ _ _ h => h) (Or.inl ⟨by rfl, ?_⟩) ?_ ?_
                  rotate_left
                  ·intro w'
                   go_simp
                   with_reducible rfl
                  rotate_left
                  ·simp only [Act.put, zataa, zatab, zatac, i64_w, i32_w]
                   rfl
                  refine pure_ (i := 4) (N := some 53) (v := ?_) (a' := ?_) zatsq14 rfl rfl (any_of HT_.out (by kernel_rfl)) (fun _ _ _ h => h) (Or.inl ⟨by rfl, ?_⟩) ?_ ?_
                  rotate_left
                  ·intro w'
                   go_simp
                   with_reducible rfl
                  rotate_left
                  ·simp only [Act.put, zataa, zatab, zatac, i64_w, i32_w]
                   rfl
                  refine take_ (i := 2) (N := some 51) (v := ?_) (a' := ?_) zatsq15 rfl rfl (take_ofW HT_.out HW_.out (by kernel_rfl)) (fun _ _ _ h => h) (Or.inl ⟨by rfl, ?_⟩) hHeld ?_ ?_
                  rotate_left
                  ·rintro w' ⟨s0, s1⟩
                   go_simp
                   with_reducible rfl
                  rotate_left
                  ·simp only [Act.put, zataa, zatab, zatac, i64_w, i32_w]
                   rfl
                  refine take_ (i := 5) (N := some 54) (v := ?_) (a' := ?_) zatsq16 rfl rfl (take_ofW HT_.out HW_.out (by kernel_rfl)) (fun _ _ _ h => h) (Or.inl ⟨by rfl, ?_⟩) hHeld ?_ ?_
                  rotate_left
                  ·rintro w' ⟨s0, s1⟩
                   go_simp
                   with_reducible rfl
                  rotate_left
                  ·simp only [Act.put, zataa, zatab, zatac, i64_w, i32_w]
                   rfl
                  refine pure_ (i := 6) (N := some 55) (v := ?_) (a' := ?_) zatsq17 rfl rfl (any_of HT_.out (by kernel_rfl)) (fun _ _ _ h => h) (Or.inl ⟨by rfl, ?_⟩) ?_ ?_
                  rotate_left
                  ·intro w'
                   go_simp
                   with_reducible rfl
                  rotate_left
                  ·simp only [Act.put, zataa, zatab, zatac, i64_w, i32_w]
                   rfl
                  refine one_ (i := 3) (N := some 52) zatsq18 rfl rfl (one_of HT_.out (by kernel_rfl)) (by decide) (fun K hK => ?_)
                  refine goes_ Try.func43 (by kernel_rfl) rfl #[.string ((rd_T72 ((rd_T24 l0 zatas).f4) zatav).f0)] (by rfl) rfl rfl (by (try simp only [zatan, zatao, zatap]); first | done | rfl) ?_
                  with_reducible refine (octet_Text.calls k2 ((rd_T72 ((rd_T24 l0 zatas).f4) zatav).f0) t440 _ A36.out).mono ?_
                  rintro e w45 ⟨rfl, hb⟩
                  refine ⟨_, rfl, ?_⟩
                  have n0_ := zbb zatat hb
                  have n1_ := zbb zatax hb
                  have n2_ := zataq (below_step (zh2 HB zataz zatbe) hb)
                  clear zatat
                  clear zatax
                  clear HB
                  have zatat := n0_
                  have zatax := n1_
                  have HB := n2_
                  clear n0_ n1_ n2_
                  (try clear hb)
                  (try clear hb2)
                  (try clear hk)
                  (try clear hi)
                  refine hK.out _ _ ⟨(zatal zatax.out 0).trans rfl, (zatal zatax.out 1).trans rfl⟩ (fun hHeld => ?_)
                  clear hK K
                  refine norm_ (a' := ?_) ?_ ?_
                  rotate_left
                  ·show Act.put _ (some 52) _ = _
                   simp only [Act.put, zataa, zatab, zatac, i64_w, i32_w]
                   rfl
                  refine one_ (i := 7) (N := some 56) zatsq19 rfl rfl (one_of HT_.out (by kernel_rfl)) (by decide) (fun K hK => ?_)
                  refine goes_ Try.func42 (by kernel_rfl) rfl #[.int .u64 (IntKind.u64.wrap ((rd_T72 ((rd_T24 l0 zatas).f4) zatav).f1))] (by rfl) rfl rfl (by (try simp only [zatan, zatao, zatap]); first | done | rfl) ?_
                  with_reducible refine (octet_Number.calls k2 (IntKind.u64.wrap ((rd_T72 ((rd_T24 l0 zatas).f4) zatav).f1)) t441 _ A37.out).mono ?_
                  rintro e w46 ⟨rfl, hb⟩
                  refine ⟨_, rfl, ?_⟩
                  have n0_ := zbb zatat hb
                  have n1_ := zbb zatax hb
                  have n2_ := zataq (below_step (zh2 HB zataz zatbe) hb)
                  clear zatat
                  clear zatax
                  clear HB
                  have zatat := n0_
                  have zatax := n1_
                  have HB := n2_
                  clear n0_ n1_ n2_
                  (try clear hb)
                  (try clear hb2)
                  (try clear hk)
                  (try clear hi)
                  refine hK.out _ _ ⟨(zatal zatax.out 0).trans rfl, (zatal zatax.out 1).trans rfl⟩ (fun hHeld => ?_)
                  clear hK K
                  refine norm_ (a' := ?_) ?_ ?_
                  rotate_left
                  ·show Act.put _ (some 56) _ = _
                   simp only [Act.put, zataa, zatab, zatac, i64_w, i32_w]
                   rfl
                  refine pure_ (i := 8) (N := some 57) (v := ?_) (a' := ?_) zatsq20 rfl rfl (any_of HT_.out (by kernel_rfl)) (fun _ _ _ h => h) (Or.inl ⟨by rfl, ?_⟩) ?_ ?_
                  rotate_left
                  ·intro w'
                   go_simp
                   with_reducible rfl
                  rotate_left
                  ·simp only [Act.put, zataa, zatab, zatac, i64_w, i32_w]
                   rfl
                  refine pure_ (i := 9) (N := some 58) (v := ?_) (a' := ?_) zatsq21 rfl rfl (any_of HT_.out (by kernel_rfl)) (fun _ _ _ h => h) (Or.inl ⟨by rfl, ?_⟩) ?_ ?_
                  rotate_left
                  ·intro w'
                   go_simp
                   with_reducible rfl
                  rotate_left
                  ·simp only [Act.put, zataa, zatab, zatac, i64_w, i32_w]
                   rfl
                  refine pure_ (i := 10) (N := some 4) (v := ?_) (a' := ?_) zatsq22 rfl rfl (any_of HT_.out (by kernel_rfl)) (fun _ _ _ h => h) (Or.inl ⟨by rfl, ?_⟩) ?_ ?_
                  rotate_left
                  ·intro w'
                   go_simp
                   with_reducible rfl
                  rotate_left
                  ·simp only [Act.put, zataa, zatab, zatac, i64_w, i32_w]
                   rfl
                  refine done_ (done_of HT_.out (by kernel_rfl)) ?_
                  try go_wp2
                  go_roundg k2
                  case measure => have := HK1.out; have := HK2.out; omega
                  case rel => exact ⟨(zatba ++ (t440 ++ t441)), (wrap64 (zatav + 1)), (by first | rfl | (simp; done) | (simp [*]; done)), (by first | rfl | (simp; done) | (simp [*]; done)), H', ⟨by have := HK1.out; have := HK2.out; omega⟩, ⟨zbk zatat⟩, ⟨zh2 HB zataz zatbe⟩⟩
                 ·rw [if_neg c39] at H
                  exact absurd H (by simp)
                ·rw [if_neg c38] at H
                 exact absurd H (by simp)
               ·rw [if_neg c35] at H
                exact absurd H (by simp)
              ·rw [if_neg c34] at H
               exact absurd H (by simp)
             ·rw [if_neg c33] at H
              have c33b0 : decide (zatav < (((rd_T24 l0 zatas).f4).length : Int)) = false := decide_eq_false c33
              clear c33
              replace H := Option.bind_eq_some_iff.mp H
              obtain ⟨t442, A470, H⟩ := H
              replace H : (if zatba.size + t442.size ≤ 9223372036854775807 then (chain_Encode.l0 k2 (zatba ++ t442) l0 (l0.length : Int) (wrap64 (zatas + 1))) else (none)) = some (r1, r2) := H
              have A47 := zataq A470
              clear A470
              by_cases c48 : zatba.size + t442.size ≤ 9223372036854775807
              ·rw [if_pos c48] at H
               have c48b0 := eq_true c48
               have c48b1 : decide (zatba.size + t442.size ≤ 9223372036854775807) = true := decide_eq_true c48
               try have c48b2 : (9223372036854775807 < zatba.size + t442.size) = False := eq_false (Nat.not_lt.2 c48)
               have H' := zataq H
               clear H
               have zatdo : wr.cell? ⟨zatau, 0, none⟩ = some (.int .i64 ((rd_T24 l0 zatas).f0)) := (zatal zatat.out 0).trans rfl
               have zatdp : wr.cell? ⟨zatau, 1, none⟩ = some (.bool false) := (zatal zatat.out 1).trans rfl
               have zatdq : wr.cell? ⟨zatau, 2, none⟩ = some (.int .i64 ((rd_T24 l0 zatas).f2)) := (zatal zatat.out 2).trans rfl
               have zatdr : wr.cell? ⟨zatau, 3, none⟩ = some (.string ((rd_T24 l0 zatas).f3)) := (zatal zatat.out 3).trans rfl
               have zatds : wr.cell? ⟨zatau, 4, none⟩ = some (.slice A432_4 ((rd_T24 l0 zatas).f4).length c432_4) := (zatal zatat.out 4).trans rfl
               have zatdt := zatam zatat.out 0
               have zatdu := zatam zatat.out 1
               have zatdv := zatam zatat.out 2
               have zatdw := zatam zatat.out 3
               have zatdx := zatam zatat.out 4
               go_wp2_with (first | ((with_reducible refine gate_callee (f := 43) rfl ?_); refine goesL_ (some 63) rfl rfl Try.func43 (by kernel_rfl) rfl #[.string ((rd_T24 l0 zatas).f3)] rfl (by (try simp only [zatan, zatao, zatap]); first | done | rfl) ?_; (with_reducible refine (octet_Text.calls k2 ((rd_T24 l0 zatas).f3) t442 _ A47.out).mono ?_); rintro e w50 ⟨rfl, hb⟩; refine ⟨_, rfl, ?_⟩; have n0_ := zbb zatat hb; have n1_ := zataq (below_step (zh1 HB zataz) hb); clear zatat; clear HB; have zatat := n0_; have HB := n1_; clear n0_ n1_; (try clear hb); (try clear hk); (try clear hi)))
               go_roundg k2
               case measure => have := HK1.out; have := HK2.out; omega
               case rel => exact ⟨(zatba ++ t442), (wrap64 (zatas + 1)), (by first | rfl | (simp; done) | (simp [*]; done)), (by first | rfl | (simp; done) | (simp [*]; done)), H', ⟨by have := HK1.out; have := HK2.out; omega⟩, ⟨zh1 HB zataz⟩⟩
              ·rw [if_neg c48] at H
               exact absurd H (by simp)
          ·rw [if_neg c24] at H
           exact absurd H (by simp)
         ·rw [if_neg c23] at H
          exact absurd H (by simp)
       ·rw [if_neg c11] at H
        exact absurd H (by simp)
      ·rw [if_neg c9] at H
       exact absurd H (by simp)
     ·rw [if_neg c8] at H
      exact absurd H (by simp)
    ·rw [if_neg c7] at H
     have c7b0 : decide (zatas < (l0.length : Int)) = false := decide_eq_false c7
     clear c7
     simp only [Option.some.injEq, Prod.mk.injEq] at H
     obtain ⟨rfl, rfl⟩ := H
     go_wp2
     go_ret2
     exact ⟨by first | rfl | (simp [errW_none, errW_some] <;> rfl) | (simp [*, errW_none, errW_some] <;> rfl), zh0 HB⟩
 ·replace c3 := Bool.eq_false_iff.mpr c3
  subst c3
  have H1 : (some ((⟨#[]⟩ : ByteArray), 1)) = some (r1, r2) := by rw [if_neg (show ¬ (false = true) by decide)] at H; exact H
  clear H
  have H := H1
  clear H1
  simp only [Option.some.injEq, Prod.mk.injEq] at H
  obtain ⟨rfl, rfl⟩ := H
  go_enter Try.func30, Try.ntmps30
  go_wp2_with (first | ((with_reducible refine gate_callee (f := 37) rfl ?_); refine goesL_ (some 10) rfl rfl Try.func37 (by kernel_rfl) rfl #[.slice A0 l0.length c0] rfl (by (try simp only [zatan, zatao, zatap]); first | done | rfl) ?_; (with_reducible refine (chain_right.calls k _ _ l0 false _ ?side1 ?side2 A2.out).mono ?_); (case side1 => repeat (first | exact HR0.out | (with_reducible refine Kd.C_alloc ?_ _) | (with_reducible refine Kd.C_drewN ?_ _) | (with_reducible refine Kd.C_drew ?_))); (case side2 => exact HC0.out); rintro e w51 ⟨rfl, hb⟩; refine ⟨_, rfl, ?_⟩; have n0_ := zataq (below_step (zh0 HB) hb); clear HB; have HB := n0_; clear n0_; (try clear hb); (try clear hk); (try clear hi)))
  go_ret2
  exact ⟨by first | rfl | (simp [errW_none, errW_some] <;> rfl) | (simp [*, errW_none, errW_some] <;> rfl), zh0 HB⟩

end Go.Proofs.Ytmpnaaegahjfkaa.Q