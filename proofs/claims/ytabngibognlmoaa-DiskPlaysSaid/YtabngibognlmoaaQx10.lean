

/- Written by a program of this session (wip/patch_print.py over the kit's print): functions of the given program as plain Lean functions, and that each call does what its function says, under no further conditions. -/
import Derived.Test.YtabngibognlmoaaQx0
import Derived.Test.YtabngibognlmoaaQx9
namespace Go.Proofs.Ytabngibognlmoaa.Q
open Go.RowKit Go.Proofs.YtabngibognlmoaaW.PrintWords Go.Proofs.YtabngibognlmoaaW.PrintLast Go.Proofs.YtabngibognlmoaaW.PrintMore
attribute [local go_sem] max2_int min2_int max_two min_two max_three min_three max_four min_four   -- for this text's walks alone
set_option linter.unusedVariables false
set_option linter.unusedSimpArgs false
attribute [local go_sem] xor_ones_u8 xor_ones_u16 xor_ones_u32 xor_ones_u64 cell_twice frozen_twice
abbrev zkaa := @List.setIfInBounds_toArray
abbrev zkab := @List.set_cons_zero
abbrev zkac := @List.set_cons_succ
abbrev zkad := @blk_drewN
abbrev zkae := @blk_alloc
abbrev zkaf := @blk_drew
abbrev zkag := @below_set
abbrev zkah := @pw_below_drewN
abbrev zkai := @below_drew1
abbrev zkaj := @below_alloc
abbrev zkak := @blk_cell
abbrev zkal := @blk_frozen
abbrev zkam := @Aside0.mk
abbrev zksq0 : Array Bool := #[false, false, false, false, false, false, false, false, false, false]
abbrev zksq1 : Array Bool := #[true, false, false, false, false, false, false, false, false, false]
abbrev zksq2 : Array Bool := #[true, true, false, false, false, false, false, false, false, false]
abbrev zksq3 : Array Bool := #[true, true, false, false, true, false, false, false, false, false]
abbrev zksq4 : Array Bool := #[true, true, false, false, true, false, true, false, false, false]
abbrev zksq5 : Array Bool := #[true, true, true, false, true, false, true, false, false, false]
abbrev zksq6 : Array Bool := #[true, true, true, false, true, true, true, false, false, false]
abbrev zksq7 : Array Bool := #[true, true, true, false, true, true, true, true, false, false]
abbrev zksq8 : Array Bool := #[true, true, true, true, true, true, true, true, false, false]
abbrev zksq9 : Array Bool := #[true, true, true, true, true, true, true, true, true, false]
abbrev zksq10 : Array Bool := #[true, true, true, true, true, true, true, true, true, true]
abbrev zksq11 : Array Bool := #[true, true, false, true, false, false, false, false, false, false]
abbrev zksq12 : Array Bool := #[true, true, false, true, true, false, false, false, false, false]
abbrev zksq13 : Array Bool := #[true, true, true, true, true, false, false, false, false, false]
abbrev zksq14 : Array Bool := #[true, true, true, true, true, true, false, false, false, false]
abbrev zksq15 : Array Bool := #[true, true, true, true, true, true, true, false, false, false]
/-! ### stowageref04_Do: function 58 -/
def stowageref04_Do.j0 : Nat → List (S48) → ByteArray → Int → ByteArray → ByteArray → ByteArray → Int → Option ((List (S48)))
 | 0, _, _, _, _, _, _, _ => none
 | k + 1, x0, x7, zkas, zkar, zkav, zkat, zkau => if zkas = 0 then (if x7.size + zkat.size ≤ 9223372036854775807 then ((stowageref04_with.f k x0 zkar (x7 ++ zkat)).bind fun t264 => (some t264)) else (none)) else (if zkas = 1 then ((stowageref04_with.f k x0 zkar zkat).bind fun t267 => (some t267)) else (if zkas = 2 then ((stowageref04_without.f k x0 zkar).bind fun t270 => ((stowageref04_with.f k t270 zkav x7).bind fun t273 => (some t273))) else (if zkas = 3 then ((stowageref04_without.f k x0 zkar).bind fun t276 => (some t276)) else (if 0 ≤ zkau then (if zkau ≤ (x7.size : Int) then ((stowageref04_with.f k x0 zkar (x7.extract 0 (zkau : Int).toNat)).bind fun t279 => (some t279)) else (none)) else (none)))))
def stowageref04_Do.f (k : Nat) (l0 : List (S48)) (a1_0 : Int) (a1_1 : ByteArray) (a1_2 : ByteArray) (a1_3 : ByteArray) (a1_4 : Int) : Option ((List (S48))) := (stowageref04_Find.f k l0 a1_1).bind fun bt261 => (if bt261.2 = true then (if 0 ≤ bt261.1 then (if bt261.1 < (l0.length : Int) then (stowageref04_Do.j0 k l0 ((rd_T48 l0 bt261.1).f1) a1_0 a1_1 a1_2 a1_3 a1_4) else (none)) else (none)) else (stowageref04_Do.j0 k l0 (⟨#[]⟩ : ByteArray) a1_0 a1_1 a1_2 a1_3 a1_4))
def stowageref04_Do.T11 : Bool × List (List Nat × List Nat) := (true, [([], []), ([], []), ([1], [1]), ([0, 2], [0, 2]), ([], []), ([4], [4]), ([], []), ([5, 6], [5, 6]), ([3, 7, 3], [3, 7]), ([8, 8, 0, 1, 2, 3, 4, 5, 6, 7, 8], [8])])
def stowageref04_Do.B11 : List Nat := [0, 0, 2, 7, 0, 16, 0, 112, 255, 511]
theorem stowageref04_Do.tab11 : rtab .any (opsOf Try.f58 11) = stowageref04_Do.T11 := by kernel_rfl
theorem stowageref04_Do.bits11 : waitsOk stowageref04_Do.T11.2 stowageref04_Do.B11 = true := by kernel_rfl
def stowageref04_Do.T14 : Bool × List (List Nat × List Nat) := (true, [([], []), ([], []), ([1], [1]), ([], []), ([], []), ([4], [4]), ([3, 5], [3, 5]), ([2, 6], [2, 6]), ([0, 7], [0, 7]), ([8, 8, 0, 1, 2, 3, 4, 5, 6, 7, 8], [8])])
def stowageref04_Do.B14 : List Nat := [0, 0, 2, 0, 0, 16, 56, 126, 255, 511]
theorem stowageref04_Do.tab14 : rtab .any (opsOf Try.f58 14) = stowageref04_Do.T14 := by kernel_rfl
theorem stowageref04_Do.bits14 : waitsOk stowageref04_Do.T14.2 stowageref04_Do.B14 = true := by kernel_rfl
set_option maxHeartbeats 8000000 in
set_option maxRecDepth 100000 in
theorem stowageref04_Do.calls (k : Nat) (A0 : Option Addr) (c0 : Nat) (l0 : List (S48)) (a1_0 : Int) (a1_1 : ByteArray) (a1_2 : ByteArray) (a1_3 : ByteArray) (a1_4 : Int) (r : List (S48)) (w : World) (hr0 : Kd.C k48 w A0 l0.length l0) (hc0 : l0.length ≤ c0) (h : stowageref04_Do.f k l0 a1_0 a1_1 a1_2 a1_3 a1_4 = some r) :
  Calls Try.prog 58 #[.slice A0 l0.length c0, .agg #[.int .i64 a1_0, .string a1_1, .string a1_2, .string a1_3, .int .i64 a1_4]] w fun e w' => ∃ v0_ : Value, e = .returned (v0_) ∧ Kd.R k48 48 w' w.heap.size (fun _ => True) v0_ r ∧ Below w.heap.size w w' := by
 have hu86 := Try.underlying86
 have hu48 := Try.underlying48
 have HR0 := zkam hr0
 have HC0 := zkam hc0
 clear hr0 hc0
 have HB := zkam (Below.refl w.heap.size w)
 have H : ((stowageref04_Find.f k l0 a1_1).bind fun bt261 => (if bt261.2 = true then (if 0 ≤ bt261.1 then (if bt261.1 < (l0.length : Int) then (stowageref04_Do.j0 k l0 ((rd_T48 l0 bt261.1).f1) a1_0 a1_1 a1_2 a1_3 a1_4) else (none)) else (none)) else (stowageref04_Do.j0 k l0 (⟨#[]⟩ : ByteArray) a1_0 a1_1 a1_2 a1_3 a1_4))) = some r := h
 clear h
 replace H := Option.bind_eq_some_iff.mp H
 obtain ⟨⟨t261, t262⟩, A30, H⟩ := H
 replace H : (if t262 = true then (if 0 ≤ t261 then (if t261 < (l0.length : Int) then (stowageref04_Do.j0 k l0 ((rd_T48 l0 t261).f1) a1_0 a1_1 a1_2 a1_3 a1_4) else (none)) else (none)) else (stowageref04_Do.j0 k l0 (⟨#[]⟩ : ByteArray) a1_0 a1_1 a1_2 a1_3 a1_4)) = some r := H
 have A3 := zkam A30
 clear A30
 have HC4 := zkam H
 clear H
 go_enter Try.func58, Try.ntmps58
 go_upto_if 15 with (first | ((with_reducible refine gate_dst (N := 3) rfl ?_); refine box_event ?hg (N := 3) ?hd (cs := #[.int .i64 a1_0, .string a1_1, .string a1_2, .string a1_3, .int .i64 a1_4]) (t := 86) ?hr ?_; (case hd => rfl); (case hg => rfl); (case hr => first | (go_simp; done) | (go_simp; rfl)); intro zkao hg w5 hbox hb; have n0_ := zkam (below_step (by repeat (first | (with_reducible first | exact HB.out | apply zkaj | apply zkah | apply zkai) | exact HB.out)) hb); have n1_ := zkam (hbox); have n2_ := zkam ((by rw [hg]; exact (below_size (by repeat (first | (with_reducible first | exact HB.out | apply zkaj | apply zkah | apply zkai) | exact HB.out))) : w.heap.size ≤ zkao)); have n3_ := zkam ((by rw [hg]; exact (below_size (by repeat (first | (with_reducible first | exact HB.out | apply zkaj | apply zkah | apply zkai) | exact HB.out))) : w.heap.size ≤ zkao)); clear HB; have HB := n0_; have zkan := n1_; have zkde := n2_; have zkap := n3_; clear n0_ n1_ n2_ n3_; clear hb hbox hg; have zkaw : w5.cell? ⟨zkao, 0, none⟩ = some (.int .i64 a1_0) := (zkak zkan.out 0).trans rfl; have zkax : w5.cell? ⟨zkao, 1, none⟩ = some (.string a1_1) := (zkak zkan.out 1).trans rfl; have zkay : w5.cell? ⟨zkao, 2, none⟩ = some (.string a1_2) := (zkak zkan.out 2).trans rfl; have zkaz : w5.cell? ⟨zkao, 3, none⟩ = some (.string a1_3) := (zkak zkan.out 3).trans rfl; have zkba : w5.cell? ⟨zkao, 4, none⟩ = some (.int .i64 a1_4) := (zkak zkan.out 4).trans rfl; have zkbb := zkal zkan.out 0; have zkbc := zkal zkan.out 1; have zkbd := zkal zkan.out 2; have zkbe := zkal zkan.out 3; have zkbf := zkal zkan.out 4) | ((with_reducible refine gate_callee (f := 59) rfl ?_); refine goesL_ (some 12) rfl rfl Try.func59 (by kernel_rfl) rfl #[.slice A0 l0.length c0, .string a1_1] rfl (by (try simp only [List.map_toArray, List.map_cons, List.map_nil]); first | done | rfl) ?_; (with_reducible refine (stowageref04_Find.calls k _ _ l0 a1_1 t261 t262 _ ?side1 ?side2 A3.out).mono ?_); (case side1 => repeat (first | exact (Kd.C_below HR0.out HB.out) | (with_reducible refine Kd.C_alloc ?_ _) | (with_reducible refine Kd.C_drewN ?_ _) | (with_reducible refine Kd.C_drew ?_))); (case side2 => exact HC0.out); rintro e w' ⟨rfl, ⟨nd, rfl⟩⟩; refine ⟨_, rfl, ?_⟩))
 (try simp only [Act.put, zkaa, zkab, zkac])
 go_cut [7] (fun v7 wc => ∃ (kq : Nat) (zkaq : ByteArray), v7 = .string zkaq ∧ Aside0 (stowageref04_Do.j0 kq l0 zkaq a1_0 a1_1 a1_2 a1_3 a1_4 = some r) ∧ Aside0 (kq ≤ k) ∧ Aside0 (wc.heap[zkao]? = some (.cells #[.int .i64 a1_0, .string a1_1, .string a1_2, .string a1_3, .int .i64 a1_4] 86 (0, 0))) ∧ Aside0 (Below w.heap.size w wc))
 case first =>
  have H := HC4.out
  clear HC4
  by_cases c7 : t262 = true
  ·subst c7
   have H1 : (if 0 ≤ t261 then (if t261 < (l0.length : Int) then (stowageref04_Do.j0 k l0 ((rd_T48 l0 t261).f1) a1_0 a1_1 a1_2 a1_3 a1_4) else (none)) else (none)) = some r := by rw [if_pos rfl] at H; exact H
   clear H
   have H := H1
   clear H1
   by_cases c8 : 0 ≤ t261
   ·rw [if_pos c8] at H
    have c8b0 : decide (0 ≤ t261) = true := decide_eq_true c8
    clear c8
    (first | rw [c8b0] | (simp only [i64_w, i32_w]; rw [c8b0]) | skip)
    by_cases c9 : t261 < (l0.length : Int)
    ·rw [if_pos c9] at H
     have c9b0 : decide (t261 < (l0.length : Int)) = true := decide_eq_true c9
     clear c9
     have H' := zkam H
     clear H
     have p263 : 0 ≤ (t261 : Int) := of_decide_eq_true (by first | (with_reducible assumption) | assumption)
     have q263 : t261 < (l0.length : Int) := of_decide_eq_true (by first | (with_reducible assumption) | assumption)
     obtain ⟨ad263, e263, hx263_0, hx263_1⟩ := at_T48 HR0.out t261 p263 q263
     cases e263
     replace hx263_0 := (HB.out.cell (World.block_lt_of_cell? w _ hx263_0)).trans hx263_0
     replace hx263_1 := (HB.out.cell (World.block_lt_of_cell? w _ hx263_1)).trans hx263_1
     replace p263 := eq_true p263
     replace q263 := eq_true q263
     go_wp2
     go_meet
     case rel => exact ⟨_, ((rd_T48 l0 t261).f1), (by first | rfl | (simp; done) | (simp [*]; done)), H', ⟨by first | omega | exact Nat.le_refl _⟩, ⟨zbk zkan⟩, ⟨by repeat (first | (with_reducible first | exact HB.out | apply zkaj | apply zkah | apply zkai | refine zkag ?_ zkap.out) | exact HB.out)⟩⟩
    ·rw [if_neg c9] at H
     exact absurd H (by simp)
   ·rw [if_neg c8] at H
    exact absurd H (by simp)
  ·replace c7 := Bool.eq_false_iff.mpr c7
   subst c7
   have H1 : (stowageref04_Do.j0 k l0 (⟨#[]⟩ : ByteArray) a1_0 a1_1 a1_2 a1_3 a1_4) = some r := by rw [if_neg (show ¬ (false = true) by decide)] at H; exact H
   clear H
   have H := H1
   clear H1
   have H' := zkam H
   clear H
   go_wp2
   go_meet
   case rel => exact ⟨_, ((⟨#[]⟩ : ByteArray)), (by first | rfl | (simp; done) | (simp [*]; done)), H', ⟨by first | omega | exact Nat.le_refl _⟩, ⟨zbk zkan⟩, ⟨by repeat (first | (with_reducible first | exact HB.out | apply zkaj | apply zkah | apply zkai | refine zkag ?_ zkap.out) | exact HB.out)⟩⟩
 case rest =>
  clear HC4
  try clear p2
  try clear q2
  try clear hx2
  try clear c5
  try clear c7
  try clear c8
  try clear c8b0
  try clear c9
  try clear c9b0
  try clear zkaw
  try clear zkax
  try clear zkay
  try clear zkaz
  try clear zkba
  try clear zkbb
  try clear zkbc
  try clear zkbd
  try clear zkbe
  try clear zkbf
  try clear hx263_0
  try clear hx263_1
  try clear p263
  try clear q263
  obtain ⟨kq, zkaq, rfl, HA, HJ3, zkan, HB⟩ := hcut
  cases kq with
  | zero => exact absurd HA.out (by simp [stowageref04_Do.j0])
  | succ kj3 =>
   have H := HA.out
   clear HA
   simp only [stowageref04_Do.j0] at H
   by_cases c10 : a1_0 = 0
   ·rw [if_pos c10] at H
    have c10b0 : (a1_0 == 0) = true := beq_iff_eq.mpr c10
    have c10b1 : (a1_0 != 0) = false := bne_eq_false_iff_eq.mpr c10
    clear c10
    by_cases c11 : zkaq.size + a1_3.size ≤ 9223372036854775807
    ·rw [if_pos c11] at H
     have c11b0 := eq_true c11
     have c11b1 : decide (zkaq.size + a1_3.size ≤ 9223372036854775807) = true := decide_eq_true c11
     try have c11b2 : (9223372036854775807 < zkaq.size + a1_3.size) = False := eq_false (Nat.not_lt.2 c11)
     replace H := Option.bind_eq_some_iff.mp H
     obtain ⟨t264, A120, H⟩ := H
     replace H : (some t264) = some r := H
     have A12 := zkam A120
     clear A120
     obtain rfl := Option.some.inj H
     have zkbg : wc.cell? ⟨zkao, 0, none⟩ = some (.int .i64 a1_0) := (zkak zkan.out 0).trans rfl
     have zkbh : wc.cell? ⟨zkao, 1, none⟩ = some (.string a1_1) := (zkak zkan.out 1).trans rfl
     have zkbi : wc.cell? ⟨zkao, 2, none⟩ = some (.string a1_2) := (zkak zkan.out 2).trans rfl
     have zkbj : wc.cell? ⟨zkao, 3, none⟩ = some (.string a1_3) := (zkak zkan.out 3).trans rfl
     have zkbk : wc.cell? ⟨zkao, 4, none⟩ = some (.int .i64 a1_4) := (zkak zkan.out 4).trans rfl
     have zkbl := zkal zkan.out 0
     have zkbm := zkal zkan.out 1
     have zkbn := zkal zkan.out 2
     have zkbo := zkal zkan.out 3
     have zkbp := zkal zkan.out 4
     go_wp2_with (first | ((with_reducible refine gate_callee (f := 63) rfl ?_); refine goesL_ (some 33) rfl rfl Try.func63 (by kernel_rfl) rfl #[.slice A0 l0.length c0, .agg #[.string a1_1, .string (zkaq ++ a1_3)]] rfl (by (try simp only [List.map_toArray, List.map_cons, List.map_nil]); first | done | rfl) ?_; (with_reducible refine (stowageref04_with.calls kj3 _ _ l0 a1_1 (zkaq ++ a1_3) t264 _ ?side1 ?side2 A12.out).mono ?_); (case side1 => repeat (first | exact (Kd.C_below HR0.out HB.out) | (with_reducible refine Kd.C_alloc ?_ _) | (with_reducible refine Kd.C_drewN ?_ _) | (with_reducible refine Kd.C_drew ?_))); (case side2 => exact HC0.out); rintro e w14 ⟨v265, rfl, ho0, hb⟩; refine ⟨_, rfl, ?_⟩; have n0_ := zkam (Kd.R_lower ho0 (below_size (by repeat (first | (with_reducible first | exact HB.out | apply zkaj | apply zkah | apply zkai | refine zkag ?_ zkap.out) | exact HB.out)))); have n1_ := zkam (blk_below (g := zkao) (o := .cells #[.int .i64 a1_0, .string a1_1, .string a1_2, .string a1_3, .int .i64 a1_4] 86 (0, 0)) (zbk zkan) hb); have n2_ := zkam (below_step (by repeat (first | (with_reducible first | exact HB.out | apply zkaj | apply zkah | apply zkai | refine zkag ?_ zkap.out) | exact HB.out)) hb); clear zkan; clear HB; have HO266 := n0_; have zkan := n1_; have HB := n2_; clear n0_ n1_ n2_; (try clear hb); (try clear hk); (try clear hi); (try clear ho0)))
     go_ret
     exact ⟨_, by first | rfl | (simp [errW_none, errW_some] <;> rfl) | (simp [*, errW_none, errW_some] <;> rfl), by exact zrk HO266, by repeat (first | (with_reducible first | exact HB.out | apply zkaj | apply zkah | apply zkai | refine zkag ?_ zkap.out) | exact HB.out)⟩
    ·rw [if_neg c11] at H
     exact absurd H (by simp)
   ·rw [if_neg c10] at H
    have c10b0 : (a1_0 == 0) = false := beq_eq_false_iff_ne.mpr c10
    have c10b1 : (a1_0 != 0) = true := bne_iff_ne.mpr c10
    by_cases c15 : a1_0 = 1
    ·rw [if_pos c15] at H
     have c15b0 : (a1_0 == 1) = true := beq_iff_eq.mpr c15
     have c15b1 : (a1_0 != 1) = false := bne_eq_false_iff_eq.mpr c15
     clear c15
     replace H := Option.bind_eq_some_iff.mp H
     obtain ⟨t267, A160, H⟩ := H
     replace H : (some t267) = some r := H
     have A16 := zkam A160
     clear A160
     obtain rfl := Option.some.inj H
     have zkbq : wc.cell? ⟨zkao, 0, none⟩ = some (.int .i64 a1_0) := (zkak zkan.out 0).trans rfl
     have zkbr : wc.cell? ⟨zkao, 1, none⟩ = some (.string a1_1) := (zkak zkan.out 1).trans rfl
     have zkbs : wc.cell? ⟨zkao, 2, none⟩ = some (.string a1_2) := (zkak zkan.out 2).trans rfl
     have zkbt : wc.cell? ⟨zkao, 3, none⟩ = some (.string a1_3) := (zkak zkan.out 3).trans rfl
     have zkbu : wc.cell? ⟨zkao, 4, none⟩ = some (.int .i64 a1_4) := (zkak zkan.out 4).trans rfl
     have zkbv := zkal zkan.out 0
     have zkbw := zkal zkan.out 1
     have zkbx := zkal zkan.out 2
     have zkby := zkal zkan.out 3
     have zkbz := zkal zkan.out 4
     go_wp2_with (first | ((with_reducible refine gate_callee (f := 63) rfl ?_); refine goesL_ (some 42) rfl rfl Try.func63 (by kernel_rfl) rfl #[.slice A0 l0.length c0, .agg #[.string a1_1, .string a1_3]] rfl (by (try simp only [List.map_toArray, List.map_cons, List.map_nil]); first | done | rfl) ?_; (with_reducible refine (stowageref04_with.calls kj3 _ _ l0 a1_1 a1_3 t267 _ ?side1 ?side2 A16.out).mono ?_); (case side1 => repeat (first | exact (Kd.C_below HR0.out HB.out) | (with_reducible refine Kd.C_alloc ?_ _) | (with_reducible refine Kd.C_drewN ?_ _) | (with_reducible refine Kd.C_drew ?_))); (case side2 => exact HC0.out); rintro e w18 ⟨v268, rfl, ho0, hb⟩; refine ⟨_, rfl, ?_⟩; have n0_ := zkam (Kd.R_lower ho0 (below_size (by repeat (first | (with_reducible first | exact HB.out | apply zkaj | apply zkah | apply zkai | refine zkag ?_ zkap.out) | exact HB.out)))); have n1_ := zkam (blk_below (g := zkao) (o := .cells #[.int .i64 a1_0, .string a1_1, .string a1_2, .string a1_3, .int .i64 a1_4] 86 (0, 0)) (zbk zkan) hb); have n2_ := zkam (below_step (by repeat (first | (with_reducible first | exact HB.out | apply zkaj | apply zkah | apply zkai | refine zkag ?_ zkap.out) | exact HB.out)) hb); clear zkan; clear HB; have HO269 := n0_; have zkan := n1_; have HB := n2_; clear n0_ n1_ n2_; (try clear hb); (try clear hk); (try clear hi); (try clear ho0)))
     go_ret
     exact ⟨_, by first | rfl | (simp [errW_none, errW_some] <;> rfl) | (simp [*, errW_none, errW_some] <;> rfl), by exact zrk HO269, by repeat (first | (with_reducible first | exact HB.out | apply zkaj | apply zkah | apply zkai | refine zkag ?_ zkap.out) | exact HB.out)⟩
    ·rw [if_neg c15] at H
     have c15b0 : (a1_0 == 1) = false := beq_eq_false_iff_ne.mpr c15
     have c15b1 : (a1_0 != 1) = true := bne_iff_ne.mpr c15
     by_cases c19 : a1_0 = 2
     ·rw [if_pos c19] at H
      have c19b0 : (a1_0 == 2) = true := beq_iff_eq.mpr c19
      have c19b1 : (a1_0 != 2) = false := bne_eq_false_iff_eq.mpr c19
      clear c19
      replace H := Option.bind_eq_some_iff.mp H
      obtain ⟨t270, A200, H⟩ := H
      replace H : ((stowageref04_with.f kj3 t270 a1_2 zkaq).bind fun t273 => (some t273)) = some r := H
      have A20 := zkam A200
      clear A200
      replace H := Option.bind_eq_some_iff.mp H
      obtain ⟨t273, A210, H⟩ := H
      replace H : (some t273) = some r := H
      have A21 := zkam A210
      clear A210
      obtain rfl := Option.some.inj H
      have zkca : wc.cell? ⟨zkao, 0, none⟩ = some (.int .i64 a1_0) := (zkak zkan.out 0).trans rfl
      have zkcb : wc.cell? ⟨zkao, 1, none⟩ = some (.string a1_1) := (zkak zkan.out 1).trans rfl
      have zkcc : wc.cell? ⟨zkao, 2, none⟩ = some (.string a1_2) := (zkak zkan.out 2).trans rfl
      have zkcd : wc.cell? ⟨zkao, 3, none⟩ = some (.string a1_3) := (zkak zkan.out 3).trans rfl
      have zkce : wc.cell? ⟨zkao, 4, none⟩ = some (.int .i64 a1_4) := (zkak zkan.out 4).trans rfl
      have zkcf := zkal zkan.out 0
      have zkcg := zkal zkan.out 1
      have zkch := zkal zkan.out 2
      have zkci := zkal zkan.out 3
      have zkcj := zkal zkan.out 4
      try go_wp2
      have n0_ := zkam (zkaf zkan.out)
      have n1_ := zkam (zkai HB.out)
      clear zkan
      clear HB
      have zkan := n0_
      have HB := n1_
      clear n0_ n1_
      refine start_ (n := 10) (S := fun w' => w'.cell? ⟨zkao, 0, none⟩ = some (.int .i64 a1_0) ∧ w'.cell? ⟨zkao, 1, none⟩ = some (.string a1_1) ∧ w'.cell? ⟨zkao, 2, none⟩ = some (.string a1_2) ∧ w'.cell? ⟨zkao, 3, none⟩ = some (.string a1_3) ∧ w'.cell? ⟨zkao, 4, none⟩ = some (.int .i64 a1_4)) (ds := []) zksq0 (by kernel_rfl) rfl rfl ⟨(zkak zkan.out 0).trans rfl, (zkak zkan.out 1).trans rfl, (zkak zkan.out 2).trans rfl, (zkak zkan.out 3).trans rfl, (zkak zkan.out 4).trans rfl⟩ (fun hHeld => ?_); refine with_tabW stowageref04_Do.tab11 stowageref04_Do.bits11 (fun HT_ HW_ => ?_)
      generalize wc.drew = w23 at zkan HB hHeld ⊢
      refine pure_ (i := 0) (N := some 45) (v := ?_) (a' := ?_) zksq1 rfl rfl (any_of HT_.out (by kernel_rfl)) (fun _ _ _ h => h) (Or.inl ⟨by rfl, ?_⟩) ?_ ?_
      rotate_left
      ·intro w'
       go_simp
       with_reducible rfl
      rotate_left
      ·simp only [Act.put, zkaa, zkab, zkac, i64_w, i32_w]
       rfl
      refine pure_ (i := 1) (N := some 46) (v := ?_) (a' := ?_) zksq2 rfl rfl (any_of HT_.out (by kernel_rfl)) (fun _ _ _ h => h) (Or.inl ⟨by rfl, ?_⟩) ?_ ?_
      rotate_left
      ·intro w'
       go_simp
       with_reducible rfl
      rotate_left
      ·simp only [Act.put, zkaa, zkab, zkac, i64_w, i32_w]
       rfl
      refine pure_ (i := 4) (N := some 49) (v := ?_) (a' := ?_) zksq3 rfl rfl (any_of HT_.out (by kernel_rfl)) (fun _ _ _ h => h) (Or.inl ⟨by rfl, ?_⟩) ?_ ?_
      rotate_left
      ·intro w'
       go_simp
       with_reducible rfl
      rotate_left
      ·simp only [Act.put, zkaa, zkab, zkac, i64_w, i32_w]
       rfl
      refine pure_ (i := 6) (N := some 51) (v := ?_) (a' := ?_) zksq4 rfl rfl (any_of HT_.out (by kernel_rfl)) (fun _ _ _ h => h) (Or.inl ⟨by rfl, ?_⟩) ?_ ?_
      rotate_left
      ·intro w'
       go_simp
       with_reducible rfl
      rotate_left
      ·simp only [Act.put, zkaa, zkab, zkac, i64_w, i32_w]
       rfl
      refine take_ (i := 2) (N := some 47) (v := ?_) (a' := ?_) zksq5 rfl rfl (take_ofW HT_.out HW_.out (by kernel_rfl)) (fun _ _ _ h => h) (Or.inl ⟨by rfl, ?_⟩) hHeld ?_ ?_
      rotate_left
      ·rintro w' ⟨s0, s1, s2, s3, s4⟩
       go_simp
       with_reducible rfl
      rotate_left
      ·simp only [Act.put, zkaa, zkab, zkac, i64_w, i32_w]
       rfl
      refine take_ (i := 5) (N := some 50) (v := ?_) (a' := ?_) zksq6 rfl rfl (take_ofW HT_.out HW_.out (by kernel_rfl)) (fun _ _ _ h => h) (Or.inl ⟨by rfl, ?_⟩) hHeld ?_ ?_
      rotate_left
      ·rintro w' ⟨s0, s1, s2, s3, s4⟩
       go_simp
       with_reducible rfl
      rotate_left
      ·simp only [Act.put, zkaa, zkab, zkac, i64_w, i32_w]
       rfl
      refine pure_ (i := 7) (N := some 52) (v := ?_) (a' := ?_) zksq7 rfl rfl (any_of HT_.out (by kernel_rfl)) (fun _ _ _ h => h) (Or.inl ⟨by rfl, ?_⟩) ?_ ?_
      rotate_left
      ·intro w'
       go_simp
       with_reducible rfl
      rotate_left
      ·simp only [Act.put, zkaa, zkab, zkac, i64_w, i32_w]
       rfl
      refine one_ (i := 3) (N := some 48) zksq8 rfl rfl (one_of HT_.out (by kernel_rfl)) (by decide) (fun K hK => ?_)
      refine goes_ Try.func64 (by kernel_rfl) rfl #[.slice A0 l0.length c0, .string a1_1] (by rfl) rfl rfl (by (try simp only [List.map_toArray, List.map_cons, List.map_nil]); first | done | rfl) ?_
      with_reducible refine (stowageref04_without.calls kj3 _ _ l0 a1_1 t270 _ ?side1 ?side2 A20.out).mono ?_
      (case side1 => repeat (first | exact (Kd.C_below HR0.out HB.out) | (with_reducible refine Kd.C_alloc ?_ _) | (with_reducible refine Kd.C_drewN ?_ _) | (with_reducible refine Kd.C_drew ?_)))
      (case side2 => exact HC0.out)
      rintro e w24 ⟨v271, rfl, ho0, hb⟩
      refine ⟨_, rfl, ?_⟩
      have n0_ := zkam (Kd.R_lower ho0 (below_size (by repeat (first | (with_reducible first | exact HB.out | apply zkaj | apply zkah | apply zkai | refine zkag ?_ zkap.out) | exact HB.out))))
      have n1_ := zkam (blk_below (g := zkao) (o := .cells #[.int .i64 a1_0, .string a1_1, .string a1_2, .string a1_3, .int .i64 a1_4] 86 (0, 0)) (zbk zkan) hb)
      have n2_ := zkam (below_step (by repeat (first | (with_reducible first | exact HB.out | apply zkaj | apply zkah | apply zkai | refine zkag ?_ zkap.out) | exact HB.out)) hb)
      clear zkan
      clear HB
      have HO272 := n0_
      have zkan := n1_
      have HB := n2_
      clear n0_ n1_ n2_
      (try clear hb)
      (try clear hb2)
      (try clear hk)
      (try clear hi)
      (try clear ho0)
      obtain ⟨Ao25, co25, eo25⟩ := Kd.R_slice HO272.out
      (first | subst eo25 | (injection eo25 with f1_ f2_ f3_; have f4_ := f1_.symm; have f5_ := f3_.symm; clear f1_ f2_ f3_; subst f4_; subst f5_))
      refine hK.out _ _ ⟨(zkak zkan.out 0).trans rfl, (zkak zkan.out 1).trans rfl, (zkak zkan.out 2).trans rfl, (zkak zkan.out 3).trans rfl, (zkak zkan.out 4).trans rfl⟩ (fun hHeld => ?_)
      clear hK K
      refine norm_ (a' := ?_) ?_ ?_
      rotate_left
      ·show Act.put _ (some 48) _ = _
       simp only [Act.put, zkaa, zkab, zkac, i64_w, i32_w]
       rfl
      refine one_ (i := 8) (N := some 53) zksq9 rfl rfl (one_of HT_.out (by kernel_rfl)) (by decide) (fun K hK => ?_)
      refine goes_ Try.func63 (by kernel_rfl) rfl #[.slice Ao25 t270.length co25, .agg #[.string a1_2, .string zkaq]] (by rfl) rfl rfl (by (try simp only [List.map_toArray, List.map_cons, List.map_nil]); first | done | rfl) ?_
      with_reducible refine (stowageref04_with.calls kj3 _ _ t270 a1_2 zkaq t273 _ ?side1 ?side2 A21.out).mono ?_
      (case side1 => repeat (first | exact (Kd.R_reads' HO272.out).2.2 | (with_reducible refine Kd.C_alloc ?_ _) | (with_reducible refine Kd.C_drewN ?_ _) | (with_reducible refine Kd.C_drew ?_)))
      (case side2 => exact (Kd.R_reads' HO272.out).2.1)
      rintro e w26 ⟨v274, rfl, ho0, hb⟩
      refine ⟨_, rfl, ?_⟩
      have n0_ := zkam (Kd.R_elder' (zrk HO272) (Kd.R_base ho0) hb)
      have n1_ := zkam (Kd.R_lower (Kd.R_new' ho0 (Kd.R_lt (zrk HO272))) (below_size (by repeat (first | (with_reducible first | exact HB.out | apply zkaj | apply zkah | apply zkai | refine zkag ?_ zkap.out) | exact HB.out))))
      have n2_ := zkam (blk_below (g := zkao) (o := .cells #[.int .i64 a1_0, .string a1_1, .string a1_2, .string a1_3, .int .i64 a1_4] 86 (0, 0)) (zbk zkan) hb)
      have n3_ := zkam (below_step (by repeat (first | (with_reducible first | exact HB.out | apply zkaj | apply zkah | apply zkai | refine zkag ?_ zkap.out) | exact HB.out)) hb)
      clear HO272
      clear zkan
      clear HB
      have HO272 := n0_
      have HO275 := n1_
      have zkan := n2_
      have HB := n3_
      clear n0_ n1_ n2_ n3_
      (try clear hb)
      (try clear hb2)
      (try clear hk)
      (try clear hi)
      (try clear ho0)
      refine hK.out _ _ ⟨(zkak zkan.out 0).trans rfl, (zkak zkan.out 1).trans rfl, (zkak zkan.out 2).trans rfl, (zkak zkan.out 3).trans rfl, (zkak zkan.out 4).trans rfl⟩ (fun hHeld => ?_)
      clear hK K
      refine norm_ (a' := ?_) ?_ ?_
      rotate_left
      ·show Act.put _ (some 53) _ = _
       simp only [Act.put, zkaa, zkab, zkac, i64_w, i32_w]
       rfl
      refine pure_ (i := 9) (N := some 4) (v := ?_) (a' := ?_) zksq10 rfl rfl (any_of HT_.out (by kernel_rfl)) (fun _ _ _ h => h) (Or.inl ⟨by rfl, ?_⟩) ?_ ?_
      rotate_left
      ·intro w'
       go_simp
       with_reducible rfl
      rotate_left
      ·simp only [Act.put, zkaa, zkab, zkac, i64_w, i32_w]
       rfl
      refine done_ (done_of HT_.out (by kernel_rfl)) ?_
      try go_wp2
      go_ret
      exact ⟨_, by first | rfl | (simp [errW_none, errW_some] <;> rfl) | (simp [*, errW_none, errW_some] <;> rfl), by (with_reducible repeat (first | apply Kd.R_alloc | apply Kd.R_drewN | apply Kd.R_drew)); exact Kd.R_mono HO275.out (fun _ hk => trivial), by repeat (first | (with_reducible first | exact HB.out | apply zkaj | apply zkah | apply zkai | refine zkag ?_ zkap.out) | exact HB.out)⟩
     ·rw [if_neg c19] at H
      have c19b0 : (a1_0 == 2) = false := beq_eq_false_iff_ne.mpr c19
      have c19b1 : (a1_0 != 2) = true := bne_iff_ne.mpr c19
      by_cases c27 : a1_0 = 3
      ·rw [if_pos c27] at H
       have c27b0 : (a1_0 == 3) = true := beq_iff_eq.mpr c27
       have c27b1 : (a1_0 != 3) = false := bne_eq_false_iff_eq.mpr c27
       clear c27
       replace H := Option.bind_eq_some_iff.mp H
       obtain ⟨t276, A280, H⟩ := H
       replace H : (some t276) = some r := H
       have A28 := zkam A280
       clear A280
       obtain rfl := Option.some.inj H
       have zkck : wc.cell? ⟨zkao, 0, none⟩ = some (.int .i64 a1_0) := (zkak zkan.out 0).trans rfl
       have zkcl : wc.cell? ⟨zkao, 1, none⟩ = some (.string a1_1) := (zkak zkan.out 1).trans rfl
       have zkcm : wc.cell? ⟨zkao, 2, none⟩ = some (.string a1_2) := (zkak zkan.out 2).trans rfl
       have zkcn : wc.cell? ⟨zkao, 3, none⟩ = some (.string a1_3) := (zkak zkan.out 3).trans rfl
       have zkco : wc.cell? ⟨zkao, 4, none⟩ = some (.int .i64 a1_4) := (zkak zkan.out 4).trans rfl
       have zkcp := zkal zkan.out 0
       have zkcq := zkal zkan.out 1
       have zkcr := zkal zkan.out 2
       have zkcs := zkal zkan.out 3
       have zkct := zkal zkan.out 4
       go_wp2_with (first | ((with_reducible refine gate_callee (f := 64) rfl ?_); refine goesL_ (some 59) rfl rfl Try.func64 (by kernel_rfl) rfl #[.slice A0 l0.length c0, .string a1_1] rfl (by (try simp only [List.map_toArray, List.map_cons, List.map_nil]); first | done | rfl) ?_; (with_reducible refine (stowageref04_without.calls kj3 _ _ l0 a1_1 t276 _ ?side1 ?side2 A28.out).mono ?_); (case side1 => repeat (first | exact (Kd.C_below HR0.out HB.out) | (with_reducible refine Kd.C_alloc ?_ _) | (with_reducible refine Kd.C_drewN ?_ _) | (with_reducible refine Kd.C_drew ?_))); (case side2 => exact HC0.out); rintro e w30 ⟨v277, rfl, ho0, hb⟩; refine ⟨_, rfl, ?_⟩; have n0_ := zkam (Kd.R_lower ho0 (below_size (by repeat (first | (with_reducible first | exact HB.out | apply zkaj | apply zkah | apply zkai | refine zkag ?_ zkap.out) | exact HB.out)))); have n1_ := zkam (blk_below (g := zkao) (o := .cells #[.int .i64 a1_0, .string a1_1, .string a1_2, .string a1_3, .int .i64 a1_4] 86 (0, 0)) (zbk zkan) hb); have n2_ := zkam (below_step (by repeat (first | (with_reducible first | exact HB.out | apply zkaj | apply zkah | apply zkai | refine zkag ?_ zkap.out) | exact HB.out)) hb); clear zkan; clear HB; have HO278 := n0_; have zkan := n1_; have HB := n2_; clear n0_ n1_ n2_; (try clear hb); (try clear hk); (try clear hi); (try clear ho0)))
       go_ret
       exact ⟨_, by first | rfl | (simp [errW_none, errW_some] <;> rfl) | (simp [*, errW_none, errW_some] <;> rfl), by exact zrk HO278, by repeat (first | (with_reducible first | exact HB.out | apply zkaj | apply zkah | apply zkai | refine zkag ?_ zkap.out) | exact HB.out)⟩
      ·rw [if_neg c27] at H
       have c27b0 : (a1_0 == 3) = false := beq_eq_false_iff_ne.mpr c27
       have c27b1 : (a1_0 != 3) = true := bne_iff_ne.mpr c27
       by_cases c31 : 0 ≤ a1_4
       ·rw [if_pos c31] at H
        have c31b0 := eq_true c31
        have c31b1 : decide (0 ≤ a1_4) = true := decide_eq_true c31
        clear c31
        by_cases c32 : a1_4 ≤ (zkaq.size : Int)
        ·rw [if_pos c32] at H
         have c32b0 := eq_true c32
         have c32b1 : decide (a1_4 ≤ (zkaq.size : Int)) = true := decide_eq_true c32
         clear c32
         replace H := Option.bind_eq_some_iff.mp H
         obtain ⟨t279, A330, H⟩ := H
         replace H : (some t279) = some r := H
         have A33 := zkam A330
         clear A330
         obtain rfl := Option.some.inj H
         have zkcu : wc.cell? ⟨zkao, 0, none⟩ = some (.int .i64 a1_0) := (zkak zkan.out 0).trans rfl
         have zkcv : wc.cell? ⟨zkao, 1, none⟩ = some (.string a1_1) := (zkak zkan.out 1).trans rfl
         have zkcw : wc.cell? ⟨zkao, 2, none⟩ = some (.string a1_2) := (zkak zkan.out 2).trans rfl
         have zkcx : wc.cell? ⟨zkao, 3, none⟩ = some (.string a1_3) := (zkak zkan.out 3).trans rfl
         have zkcy : wc.cell? ⟨zkao, 4, none⟩ = some (.int .i64 a1_4) := (zkak zkan.out 4).trans rfl
         have zkcz := zkal zkan.out 0
         have zkda := zkal zkan.out 1
         have zkdb := zkal zkan.out 2
         have zkdc := zkal zkan.out 3
         have zkdd := zkal zkan.out 4
         try go_wp2
         have n0_ := zkam (zkaf zkan.out)
         have n1_ := zkam (zkai HB.out)
         clear zkan
         clear HB
         have zkan := n0_
         have HB := n1_
         clear n0_ n1_
         refine start_ (n := 10) (S := fun w' => w'.cell? ⟨zkao, 0, none⟩ = some (.int .i64 a1_0) ∧ w'.cell? ⟨zkao, 1, none⟩ = some (.string a1_1) ∧ w'.cell? ⟨zkao, 2, none⟩ = some (.string a1_2) ∧ w'.cell? ⟨zkao, 3, none⟩ = some (.string a1_3) ∧ w'.cell? ⟨zkao, 4, none⟩ = some (.int .i64 a1_4)) (ds := []) zksq0 (by kernel_rfl) rfl rfl ⟨(zkak zkan.out 0).trans rfl, (zkak zkan.out 1).trans rfl, (zkak zkan.out 2).trans rfl, (zkak zkan.out 3).trans rfl, (zkak zkan.out 4).trans rfl⟩ (fun hHeld => ?_); refine with_tabW stowageref04_Do.tab14 stowageref04_Do.bits14 (fun HT_ HW_ => ?_)
         generalize wc.drew = w35 at zkan HB hHeld ⊢
         refine pure_ (i := 0) (N := some 60) (v := ?_) (a' := ?_) zksq1 rfl rfl (any_of HT_.out (by kernel_rfl)) (fun _ _ _ h => h) (Or.inl ⟨by rfl, ?_⟩) ?_ ?_
         rotate_left
         ·intro w'
          go_simp
          with_reducible rfl
         rotate_left
         ·simp only [Act.put, zkaa, zkab, zkac, i64_w, i32_w]
          rfl
         refine pure_ (i := 1) (N := some 61) (v := ?_) (a' := ?_) zksq2 rfl rfl (any_of HT_.out (by kernel_rfl)) (fun _ _ _ h => h) (Or.inl ⟨by rfl, ?_⟩) ?_ ?_
         rotate_left
         ·intro w'
          go_simp
          with_reducible rfl
         rotate_left
         ·simp only [Act.put, zkaa, zkab, zkac, i64_w, i32_w]
          rfl
         refine pure_ (i := 3) (N := some 63) (v := ?_) (a' := ?_) zksq11 rfl rfl (any_of HT_.out (by kernel_rfl)) (fun _ _ _ h => h) (Or.inl ⟨by rfl, ?_⟩) ?_ ?_
         rotate_left
         ·intro w'
          go_simp
          with_reducible rfl
         rotate_left
         ·simp only [Act.put, zkaa, zkab, zkac, i64_w, i32_w]
          rfl
         refine pure_ (i := 4) (N := some 64) (v := ?_) (a' := ?_) zksq12 rfl rfl (any_of HT_.out (by kernel_rfl)) (fun _ _ _ h => h) (Or.inl ⟨by rfl, ?_⟩) ?_ ?_
         rotate_left
         ·intro w'
          go_simp
          with_reducible rfl
         rotate_left
         ·simp only [Act.put, zkaa, zkab, zkac, i64_w, i32_w]
          rfl
         refine take_ (i := 2) (N := some 62) (v := ?_) (a' := ?_) zksq13 rfl rfl (take_ofW HT_.out HW_.out (by kernel_rfl)) (fun _ _ _ h => h) (Or.inl ⟨by rfl, ?_⟩) hHeld ?_ ?_
         rotate_left
         ·rintro w' ⟨s0, s1, s2, s3, s4⟩
          go_simp
          with_reducible rfl
         rotate_left
         ·simp only [Act.put, zkaa, zkab, zkac, i64_w, i32_w]
          rfl
         refine take_ (i := 5) (N := some 65) (v := ?_) (a' := ?_) zksq14 rfl rfl (take_ofW HT_.out HW_.out (by kernel_rfl)) (fun _ _ _ h => h) (Or.inl ⟨by rfl, ?_⟩) hHeld ?_ ?_
         rotate_left
         ·rintro w' ⟨s0, s1, s2, s3, s4⟩
          go_simp
          with_reducible rfl
         rotate_left
         ·simp only [Act.put, zkaa, zkab, zkac, i64_w, i32_w]
          rfl
         refine pure_ (i := 6) (N := some 66) (v := ?_) (a' := ?_) zksq15 rfl rfl (any_of HT_.out (by kernel_rfl)) (fun _ _ _ h => h) (Or.inl ⟨by rfl, ?_⟩) ?_ ?_
         rotate_left
         ·intro w'
          go_simp
          with_reducible rfl
         rotate_left
         ·simp only [Act.put, zkaa, zkab, zkac, i64_w, i32_w]
          rfl
         refine pure_ (i := 7) (N := some 67) (v := ?_) (a' := ?_) zksq8 rfl rfl (any_of HT_.out (by kernel_rfl)) (fun _ _ _ h => h) (Or.inl ⟨by rfl, ?_⟩) ?_ ?_
         rotate_left
         ·intro w'
          go_simp
          with_reducible rfl
         rotate_left
         ·simp only [Act.put, zkaa, zkab, zkac, i64_w, i32_w]
          rfl
         refine one_ (i := 8) (N := some 68) zksq9 rfl rfl (one_of HT_.out (by kernel_rfl)) (by decide) (fun K hK => ?_)
         refine goes_ Try.func63 (by kernel_rfl) rfl #[.slice A0 l0.length c0, .agg #[.string a1_1, .string (zkaq.extract 0 (a1_4 : Int).toNat)]] (by rfl) rfl rfl (by (try simp only [List.map_toArray, List.map_cons, List.map_nil]); first | done | rfl) ?_
         with_reducible refine (stowageref04_with.calls kj3 _ _ l0 a1_1 (zkaq.extract 0 (a1_4 : Int).toNat) t279 _ ?side1 ?side2 A33.out).mono ?_
         (case side1 => repeat (first | exact (Kd.C_below HR0.out HB.out) | (with_reducible refine Kd.C_alloc ?_ _) | (with_reducible refine Kd.C_drewN ?_ _) | (with_reducible refine Kd.C_drew ?_)))
         (case side2 => exact HC0.out)
         rintro e w36 ⟨v280, rfl, ho0, hb⟩
         refine ⟨_, rfl, ?_⟩
         have n0_ := zkam (Kd.R_lower ho0 (below_size (by repeat (first | (with_reducible first | exact HB.out | apply zkaj | apply zkah | apply zkai | refine zkag ?_ zkap.out) | exact HB.out))))
         have n1_ := zkam (blk_below (g := zkao) (o := .cells #[.int .i64 a1_0, .string a1_1, .string a1_2, .string a1_3, .int .i64 a1_4] 86 (0, 0)) (zbk zkan) hb)
         have n2_ := zkam (below_step (by repeat (first | (with_reducible first | exact HB.out | apply zkaj | apply zkah | apply zkai | refine zkag ?_ zkap.out) | exact HB.out)) hb)
         clear zkan
         clear HB
         have HO281 := n0_
         have zkan := n1_
         have HB := n2_
         clear n0_ n1_ n2_
         (try clear hb)
         (try clear hb2)
         (try clear hk)
         (try clear hi)
         (try clear ho0)
         refine hK.out _ _ ⟨(zkak zkan.out 0).trans rfl, (zkak zkan.out 1).trans rfl, (zkak zkan.out 2).trans rfl, (zkak zkan.out 3).trans rfl, (zkak zkan.out 4).trans rfl⟩ (fun hHeld => ?_)
         clear hK K
         refine norm_ (a' := ?_) ?_ ?_
         rotate_left
         ·show Act.put _ (some 68) _ = _
          simp only [Act.put, zkaa, zkab, zkac, i64_w, i32_w]
          rfl
         refine pure_ (i := 9) (N := some 4) (v := ?_) (a' := ?_) zksq10 rfl rfl (any_of HT_.out (by kernel_rfl)) (fun _ _ _ h => h) (Or.inl ⟨by rfl, ?_⟩) ?_ ?_
         rotate_left
         ·intro w'
          go_simp
          with_reducible rfl
         rotate_left
         ·simp only [Act.put, zkaa, zkab, zkac, i64_w, i32_w]
          rfl
         refine done_ (done_of HT_.out (by kernel_rfl)) ?_
         try go_wp2
         go_ret
         exact ⟨_, by first | rfl | (simp [errW_none, errW_some] <;> rfl) | (simp [*, errW_none, errW_some] <;> rfl), by exact zrk HO281, by repeat (first | (with_reducible first | exact HB.out | apply zkaj | apply zkah | apply zkai | refine zkag ?_ zkap.out) | exact HB.out)⟩
        ·rw [if_neg c32] at H
         exact absurd H (by simp)
       ·rw [if_neg c31] at H
        exact absurd H (by simp)

end Go.Proofs.Ytabngibognlmoaa.Q