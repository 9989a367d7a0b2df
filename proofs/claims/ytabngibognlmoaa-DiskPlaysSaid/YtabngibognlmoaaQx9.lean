

/- Written by a program of this session (wip/patch_print.py over the kit's print): functions of the given program as plain Lean functions, and that each call does what its function says, under no further conditions. -/
import Derived.Test.YtabngibognlmoaaQx0
import Derived.Test.YtabngibognlmoaaQx1
namespace Go.Proofs.Ytabngibognlmoaa.Q
open Go.RowKit Go.Proofs.YtabngibognlmoaaW.PrintWords Go.Proofs.YtabngibognlmoaaW.PrintLast Go.Proofs.YtabngibognlmoaaW.PrintMore
attribute [local go_sem] max2_int min2_int max_two min_two max_three min_three max_four min_four   -- for this text's walks alone
set_option linter.unusedVariables false
set_option linter.unusedSimpArgs false
attribute [local go_sem] xor_ones_u8 xor_ones_u16 xor_ones_u32 xor_ones_u64 cell_twice frozen_twice
attribute [local go_sem high] eqA48
-- NOT PRINTED: function 73 (slices_partitionOrdered_string)

-- NOT PRINTED: function 61 (slices_pdqsortOrdered_string)

-- NOT PRINTED: function 55 (slices_Sort_string_string)

-- NOT PRINTED: function 42 (slices_Sorted_string)

-- NOT PRINTED: function 43 (maps_Keys_map_string_string_string_string)

-- NOT PRINTED: function 26 (disk_Disk_Names)

-- NOT PRINTED: function 20 (stowagelaw04_files)

-- NOT PRINTED: function 33 (disk_Disk_Remove)

-- NOT PRINTED: function 34 (disk_Disk_Cut)

-- NOT PRINTED: function 21 (stowagelaw04_call)

abbrev zjaa := @blk_drewN
abbrev zjab := @blk_alloc
abbrev zjac := @blk_drew
abbrev zjad := @below_set
abbrev zjae := @pw_below_drewN
abbrev zjaf := @below_drew1
abbrev zjag := @below_alloc
abbrev zjah := @blk_cell
abbrev zjai := @blk_frozen
abbrev zjaj := @Aside0.mk
/-! ### stowagelaw04_same: function 23 -/
/-! ### stowageref04_New: function 28 -/
def stowageref04_New.f  : Option ((List (S48)) × (List (S86)) × Int × Bool × (List (S90)) × Int) := some (([] : List (S48)), ([] : List (S86)), 0, false, ([] : List (S90)), (-1))
set_option maxHeartbeats 8000000 in
set_option maxRecDepth 100000 in
theorem stowageref04_New.calls  (r1 : List (S48)) (r2 : List (S86)) (r3 : Int) (r4 : Bool) (r5 : List (S90)) (r6 : Int) (w : World) (h : stowageref04_New.f  = some (r1, r2, r3, r4, r5, r6)) :
  Calls Try.prog 28 #[] w fun e w' => ∃ v0_ v1_ v4_ : Value, e = .returned (.agg #[v0_, v1_, .int .i64 r3, .bool r4, v4_, .int .i64 r6]) ∧ Kd.R k48 48 w' w.heap.size (fun _ => True) v0_ r1 ∧ Kd.R k86 86 w' w.heap.size (fun _ => True) v1_ r2 ∧ Kd.R k90 90 w' w.heap.size (fun _ => True) v4_ r5 ∧ Below w.heap.size w w' := by
 have hu57 := Try.underlying57
 have HB := zjaj (Below.refl w.heap.size w)
 have H : (some (([] : List (S48)), ([] : List (S86)), 0, false, ([] : List (S90)), (-1))) = some (r1, r2, r3, r4, r5, r6) := h
 clear h
 simp only [Option.some.injEq, Prod.mk.injEq] at H
 obtain ⟨rfl, rfl, rfl, rfl, rfl, rfl⟩ := H
 go_enter Try.func28, Try.ntmps28
 go_wp2_with (first | ((with_reducible refine gate_dst (N := 0) rfl ?_); refine box_event ?hg (N := 0) ?hd (cs := #[.slice none 0 0, .slice none 0 0, .int .i64 0, .bool false, .slice none 0 0, .int .i64 0]) (t := 57) ?hr ?_; (case hd => rfl); (case hg => rfl); (case hr => first | (go_simp; done) | (go_simp; rfl)); intro zjaq hg w1 hbox hb; have n0_ := zjaj (below_step (by repeat (first | (with_reducible first | exact HB.out | apply zjag | apply zjae | apply zjaf) | exact HB.out)) hb); have n1_ := zjaj (hbox); have n2_ := zjaj ((by rw [hg]; exact (below_size (by repeat (first | (with_reducible first | exact HB.out | apply zjag | apply zjae | apply zjaf) | exact HB.out))) : w.heap.size ≤ zjaq)); have n3_ := zjaj ((by rw [hg]; exact (below_size (by repeat (first | (with_reducible first | exact HB.out | apply zjag | apply zjae | apply zjaf) | exact HB.out))) : w.heap.size ≤ zjaq)); clear HB; have HB := n0_; have zjap := n1_; have zjbv := n2_; have zjar := n3_; clear n0_ n1_ n2_ n3_; clear hb hbox hg; have zjbj : w1.cell? ⟨zjaq, 0, none⟩ = some (.slice none 0 0) := (zjah zjap.out 0).trans rfl; have zjbk : w1.cell? ⟨zjaq, 1, none⟩ = some (.slice none 0 0) := (zjah zjap.out 1).trans rfl; have zjbl : w1.cell? ⟨zjaq, 2, none⟩ = some (.int .i64 0) := (zjah zjap.out 2).trans rfl; have zjbm : w1.cell? ⟨zjaq, 3, none⟩ = some (.bool false) := (zjah zjap.out 3).trans rfl; have zjbn : w1.cell? ⟨zjaq, 4, none⟩ = some (.slice none 0 0) := (zjah zjap.out 4).trans rfl; have zjbo : w1.cell? ⟨zjaq, 5, none⟩ = some (.int .i64 0) := (zjah zjap.out 5).trans rfl; have zjbp := zjai zjap.out 0; have zjbq := zjai zjap.out 1; have zjbr := zjai zjap.out 2; have zjbs := zjai zjap.out 3; have zjbt := zjai zjap.out 4; have zjbu := zjai zjap.out 5))
 refine bodyPost_ret (results_cell_row rfl _ _ zjaq 57 #[.slice none 0 0, .slice none 0 0, .int .i64 0, .bool false, .slice none 0 0, .int .i64 (-1)] (0, 0) _ rfl (by (with_reducible repeat (first | refine zjaa ?_ _ | refine zjac ?_ | refine zjab ?_ _)); refine blk_put (cs := #[.slice none 0 0, .slice none 0 0, .int .i64 0, .bool false, .slice none 0 0, .int .i64 0]) ?_ 5 _ rfl; (with_reducible repeat (first | refine zjaa ?_ _ | refine zjac ?_ | refine zjab ?_ _)); refine blk_put (cs := #[.slice none 0 0, .slice none 0 0, .int .i64 0, .bool false, .slice none 0 0, .int .i64 0]) ?_ 4 _ rfl; (with_reducible repeat (first | refine zjaa ?_ _ | refine zjac ?_ | refine zjab ?_ _)); refine blk_put (cs := #[.slice none 0 0, .slice none 0 0, .int .i64 0, .bool false, .slice none 0 0, .int .i64 0]) ?_ 3 _ rfl; (with_reducible repeat (first | refine zjaa ?_ _ | refine zjac ?_ | refine zjab ?_ _)); refine blk_put (cs := #[.slice none 0 0, .slice none 0 0, .int .i64 0, .bool false, .slice none 0 0, .int .i64 0]) ?_ 2 _ rfl; (with_reducible repeat (first | refine zjaa ?_ _ | refine zjac ?_ | refine zjab ?_ _)); refine blk_put (cs := #[.slice none 0 0, .slice none 0 0, .int .i64 0, .bool false, .slice none 0 0, .int .i64 0]) ?_ 1 _ rfl; (with_reducible repeat (first | refine zjaa ?_ _ | refine zjac ?_ | refine zjab ?_ _)); refine blk_put (cs := #[.slice none 0 0, .slice none 0 0, .int .i64 0, .bool false, .slice none 0 0, .int .i64 0]) ?_ 0 _ rfl; exact zbk zjap) Try.underlying57 rfl (by kernel_rfl)) rfl ?_
 exact ⟨_, _, _, by first | rfl | (simp [errW_none, errW_some] <;> rfl) | (simp [*, errW_none, errW_some] <;> rfl), by first | exact Kd.R_nil _ _ _ _ _ | exact Kd.N_nil _ _ _ _ _ | exact Kd.V_nil _ _ _ _ _ | exact Kd.Q_nil _ _ _ _ _ | exact Kd.S_nil _ _ _ _ _, by first | exact Kd.R_nil _ _ _ _ _ | exact Kd.N_nil _ _ _ _ _ | exact Kd.V_nil _ _ _ _ _ | exact Kd.Q_nil _ _ _ _ _ | exact Kd.S_nil _ _ _ _ _, by first | exact Kd.R_nil _ _ _ _ _ | exact Kd.N_nil _ _ _ _ _ | exact Kd.V_nil _ _ _ _ _ | exact Kd.Q_nil _ _ _ _ _ | exact Kd.S_nil _ _ _ _ _, by repeat (first | (with_reducible first | exact HB.out | apply zjag | apply zjae | apply zjaf | refine zjad ?_ zjar.out) | exact HB.out)⟩

-- NOT PRINTED: function 51 (disk_change)

-- NOT PRINTED: function 36 (disk_Disk_Clone)

/-! ### stowageref04_Find: function 59 -/
def stowageref04_Find.l0 : Nat → List (S48) → ByteArray → Int → Option (Int × Bool)
 | 0, _, _, _ => none
 | k + 1, x0, x1, x6 => if x6 < (x0.length : Int) then (if 0 ≤ x6 then (if (Op.bytesLess (((rd_T48 x0 x6).f0).toList) x1.toList) = true then (stowageref04_Find.l0 k x0 x1 (wrap64 (x6 + 1))) else (some (x6, (((rd_T48 x0 x6).f0).toList == x1.toList)))) else (none)) else (some (x6, false))
def stowageref04_Find.f (k : Nat) (l0 : List (S48)) (a1 : ByteArray) : Option (Int × Bool) := stowageref04_Find.l0 k l0 a1 0
set_option maxHeartbeats 8000000 in
set_option maxRecDepth 100000 in
theorem stowageref04_Find.calls (k : Nat) (A0 : Option Addr) (c0 : Nat) (l0 : List (S48)) (a1 : ByteArray) (r1 : Int) (r2 : Bool) (w : World) (hr0 : Kd.C k48 w A0 l0.length l0) (hc0 : l0.length ≤ c0) (h : stowageref04_Find.f k l0 a1 = some (r1, r2)) :
  Calls Try.prog 59 #[.slice A0 l0.length c0, .string a1] w fun e w' => e = .returned (.tuple #[.int .i64 r1, .bool r2]) ∧ Drawn0 w w' := by
 have HR0 := zjaj hr0
 have HC0 := zjaj hc0
 clear hr0 hc0
 have H : (stowageref04_Find.l0 k l0 a1 0) = some (r1, r2) := h
 clear h
 have H' := zjaj H
 clear H
 go_enter Try.func59, Try.ntmps59
 go_wp2
 repeat (go_quiet (fail); try go_wp2)
 go_loopg [6] k (fun kq v6 w' => ∃ (zjak : Int), v6 = .int .i64 zjak ∧ Aside0 (stowageref04_Find.l0 kq l0 a1 zjak = some (r1, r2)) ∧ Aside0 (kq ≤ k) ∧ Drawn0 w w')
 case atStart => exact ⟨(0), (by first | rfl | (simp; done) | (simp [*]; done)), H', ⟨Nat.le_refl _⟩, by repeat (first | exact Drawn0.refl _ | apply Drawn0.step)⟩
 case round =>
  clear H'
  try clear p2
  obtain ⟨zjak, rfl, HA, HK1, ⟨m1, rfl⟩⟩ := hrel
  cases gk with
  | zero => exact absurd HA.out (by simp [stowageref04_Find.l0])
  | succ k1 =>
   have H := HA.out
   clear HA
   simp only [stowageref04_Find.l0] at H
   by_cases c3 : zjak < (l0.length : Int)
   ·rw [if_pos c3] at H
    have c3b0 : decide (zjak < (l0.length : Int)) = true := decide_eq_true c3
    clear c3
    by_cases c4 : 0 ≤ zjak
    ·rw [if_pos c4] at H
     have c4b0 : decide (0 ≤ zjak) = true := decide_eq_true c4
     clear c4
     by_cases c5 : (Op.bytesLess (((rd_T48 l0 zjak).f0).toList) a1.toList) = true
     ·rw [if_pos c5] at H
      have c5b0 : (Op.bytesLess (((rd_T48 l0 zjak).f0).toList) a1.toList) = true := c5
      clear c5
      have H' := zjaj H
      clear H
      have p226 : 0 ≤ (zjak : Int) := of_decide_eq_true (by first | (with_reducible assumption) | assumption)
      have q226 : zjak < (l0.length : Int) := of_decide_eq_true (by first | (with_reducible assumption) | assumption)
      obtain ⟨ad226, e226, hx226_0, hx226_1⟩ := at_T48 HR0.out zjak p226 q226
      cases e226
      replace p226 := eq_true p226
      replace q226 := eq_true q226
      go_wp2
      repeat (go_quiet (fail); try go_wp2)
      go_roundg k1
      case measure => have := HK1.out; omega
      case rel => exact ⟨(wrap64 (zjak + 1)), (by first | rfl | (simp; done) | (simp [*]; done)), H', ⟨by have := HK1.out; omega⟩, by repeat (first | exact Drawn0.refl _ | apply Drawn0.step)⟩
     ·rw [if_neg c5] at H
      have c5b0 : (Op.bytesLess (((rd_T48 l0 zjak).f0).toList) a1.toList) = false := by simpa using c5
      clear c5
      simp only [Option.some.injEq, Prod.mk.injEq] at H
      obtain ⟨rfl, rfl⟩ := H
      have p226 : 0 ≤ (zjak : Int) := of_decide_eq_true (by first | (with_reducible assumption) | assumption)
      have q226 : zjak < (l0.length : Int) := of_decide_eq_true (by first | (with_reducible assumption) | assumption)
      obtain ⟨ad226, e226, hx226_0, hx226_1⟩ := at_T48 HR0.out zjak p226 q226
      cases e226
      replace p226 := eq_true p226
      replace q226 := eq_true q226
      have p227 : 0 ≤ (zjak : Int) := of_decide_eq_true (by first | (with_reducible assumption) | assumption)
      have q227 : zjak < (l0.length : Int) := of_decide_eq_true (by first | (with_reducible assumption) | assumption)
      obtain ⟨ad227, e227, hx227_0, hx227_1⟩ := at_T48 HR0.out zjak p227 q227
      obtain rfl : ad226 = ad227 := (by injection e227)
      replace p227 := eq_true p227
      replace q227 := eq_true q227
      go_wp2
      repeat (go_quiet (fail); try go_wp2)
      go_ret2
      exact ⟨by first | rfl | (simp; done) | (simp [*]; done), by repeat (first | exact Drawn0.refl _ | apply Drawn0.step)⟩
    ·rw [if_neg c4] at H
     exact absurd H (by simp)
   ·rw [if_neg c3] at H
    have c3b0 : decide (zjak < (l0.length : Int)) = false := decide_eq_false c3
    clear c3
    simp only [Option.some.injEq, Prod.mk.injEq] at H
    obtain ⟨rfl, rfl⟩ := H
    go_wp2
    repeat (go_quiet (fail); try go_wp2)
    go_ret2
    exact ⟨by first | rfl | (simp; done) | (simp [*]; done), by repeat (first | exact Drawn0.refl _ | apply Drawn0.step)⟩

/-! ### stowageref04_with: function 63 -/
def stowageref04_with.f (k : Nat) (l0 : List (S48)) (a1_0 : ByteArray) (a1_1 : ByteArray) : Option ((List (S48))) := (stowageref04_Find.f k l0 a1_0).bind fun bt229 => (if 0 ≤ bt229.1 then (if bt229.1 ≤ (l0.length : Int) then ((some (l0.take (bt229.1 : Int).toNat : List (S48))).bind fun y231 => (if ([] : List (S48)).length + y231.length < 4398046511104 then ((some (([] : List (S48)) ++ y231 : List (S48))).bind fun y235 => (if y235.length < 4398046511104 then ((some (y235 ++ [(⟨a1_0, a1_1⟩ : S48)] : List (S48))).bind fun y238 => (if bt229.2 = true then (if 0 ≤ (wrap64 (bt229.1 + 1)) then (if (wrap64 (bt229.1 + 1)) ≤ (l0.length : Int) then ((some (l0.drop ((wrap64 (bt229.1 + 1)) : Int).toNat : List (S48))).bind fun y241 => (if y238.length + y241.length < 4398046511104 then (some (y238 ++ y241)) else (none))) else (none)) else (none)) else ((some (l0.drop (bt229.1 : Int).toNat : List (S48))).bind fun y248 => (if y238.length + y248.length < 4398046511104 then (some (y238 ++ y248)) else (none))))) else (none))) else (none))) else (none)) else (none))
set_option maxHeartbeats 8000000 in
set_option maxRecDepth 100000 in
theorem stowageref04_with.calls (k : Nat) (A0 : Option Addr) (c0 : Nat) (l0 : List (S48)) (a1_0 : ByteArray) (a1_1 : ByteArray) (r : List (S48)) (w : World) (hr0 : Kd.C k48 w A0 l0.length l0) (hc0 : l0.length ≤ c0) (h : stowageref04_with.f k l0 a1_0 a1_1 = some r) :
  Calls Try.prog 63 #[.slice A0 l0.length c0, .agg #[.string a1_0, .string a1_1]] w fun e w' => ∃ v0_ : Value, e = .returned (v0_) ∧ Kd.R k48 48 w' w.heap.size (fun _ => True) v0_ r ∧ Below w.heap.size w w' := by
 have hu48 := Try.underlying48
 have HR0 := zjaj hr0
 have HC0 := zjaj hc0
 clear hr0 hc0
 have HB := zjaj (Below.refl w.heap.size w)
 have H : ((stowageref04_Find.f k l0 a1_0).bind fun bt229 => (if 0 ≤ bt229.1 then (if bt229.1 ≤ (l0.length : Int) then ((some (l0.take (bt229.1 : Int).toNat : List (S48))).bind fun y231 => (if ([] : List (S48)).length + y231.length < 4398046511104 then ((some (([] : List (S48)) ++ y231 : List (S48))).bind fun y235 => (if y235.length < 4398046511104 then ((some (y235 ++ [(⟨a1_0, a1_1⟩ : S48)] : List (S48))).bind fun y238 => (if bt229.2 = true then (if 0 ≤ (wrap64 (bt229.1 + 1)) then (if (wrap64 (bt229.1 + 1)) ≤ (l0.length : Int) then ((some (l0.drop ((wrap64 (bt229.1 + 1)) : Int).toNat : List (S48))).bind fun y241 => (if y238.length + y241.length < 4398046511104 then (some (y238 ++ y241)) else (none))) else (none)) else (none)) else ((some (l0.drop (bt229.1 : Int).toNat : List (S48))).bind fun y248 => (if y238.length + y248.length < 4398046511104 then (some (y238 ++ y248)) else (none))))) else (none))) else (none))) else (none)) else (none))) = some r := h
 clear h
 replace H := Option.bind_eq_some_iff.mp H
 obtain ⟨⟨t229, t230⟩, A30, H⟩ := H
 replace H : (if 0 ≤ t229 then (if t229 ≤ (l0.length : Int) then ((some (l0.take (t229 : Int).toNat : List (S48))).bind fun y231 => (if ([] : List (S48)).length + y231.length < 4398046511104 then ((some (([] : List (S48)) ++ y231 : List (S48))).bind fun y235 => (if y235.length < 4398046511104 then ((some (y235 ++ [(⟨a1_0, a1_1⟩ : S48)] : List (S48))).bind fun y238 => (if t230 = true then (if 0 ≤ (wrap64 (t229 + 1)) then (if (wrap64 (t229 + 1)) ≤ (l0.length : Int) then ((some (l0.drop ((wrap64 (t229 + 1)) : Int).toNat : List (S48))).bind fun y241 => (if y238.length + y241.length < 4398046511104 then (some (y238 ++ y241)) else (none))) else (none)) else (none)) else ((some (l0.drop (t229 : Int).toNat : List (S48))).bind fun y248 => (if y238.length + y248.length < 4398046511104 then (some (y238 ++ y248)) else (none))))) else (none))) else (none))) else (none)) else (none)) = some r := H
 have A3 := zjaj A30
 clear A30
 by_cases c4 : 0 ≤ t229
 ·rw [if_pos c4] at H
  have c4b0 := eq_true c4
  have c4b1 : decide (0 ≤ t229) = true := decide_eq_true c4
  clear c4
  by_cases c5 : t229 ≤ (l0.length : Int)
  ·rw [if_pos c5] at H
   have c5b0 := eq_true c5
   have c5b1 : decide (t229 ≤ (l0.length : Int)) = true := decide_eq_true c5
   clear c5
   obtain ⟨y231, hy231⟩ : ∃ y_ : List (S48), y_ = (l0.take (t229 : Int).toNat) := ⟨_, rfl⟩
   replace H : (if ([] : List (S48)).length + y231.length < 4398046511104 then ((some (([] : List (S48)) ++ y231 : List (S48))).bind fun y235 => (if y235.length < 4398046511104 then ((some (y235 ++ [(⟨a1_0, a1_1⟩ : S48)] : List (S48))).bind fun y238 => (if t230 = true then (if 0 ≤ (wrap64 (t229 + 1)) then (if (wrap64 (t229 + 1)) ≤ (l0.length : Int) then ((some (l0.drop ((wrap64 (t229 + 1)) : Int).toNat : List (S48))).bind fun y241 => (if y238.length + y241.length < 4398046511104 then (some (y238 ++ y241)) else (none))) else (none)) else (none)) else ((some (l0.drop (t229 : Int).toNat : List (S48))).bind fun y248 => (if y238.length + y248.length < 4398046511104 then (some (y238 ++ y248)) else (none))))) else (none))) else (none)) = some r := by first | (rw [hy231]; with_reducible exact H) | (have H2_ := (Option.bind_some _ _).symm.trans H; rw [hy231]; with_reducible exact H2_) | (have H2_ := (Option.bind_some _ _).symm.trans H; with_reducible exact H2_) | with_reducible exact H | (rw [hy231]; exact H) | exact H
   have Ny231 := zjaj hy231
   clear hy231
   by_cases c6 : ([] : List (S48)).length + y231.length < 4398046511104
   ·rw [if_pos c6] at H
    have LMc6 := zjaj c6
    clear c6
    obtain ⟨y235, hy235⟩ : ∃ y_ : List (S48), y_ = (([] : List (S48)) ++ y231) := ⟨_, rfl⟩
    replace H : (if y235.length < 4398046511104 then ((some (y235 ++ [(⟨a1_0, a1_1⟩ : S48)] : List (S48))).bind fun y238 => (if t230 = true then (if 0 ≤ (wrap64 (t229 + 1)) then (if (wrap64 (t229 + 1)) ≤ (l0.length : Int) then ((some (l0.drop ((wrap64 (t229 + 1)) : Int).toNat : List (S48))).bind fun y241 => (if y238.length + y241.length < 4398046511104 then (some (y238 ++ y241)) else (none))) else (none)) else (none)) else ((some (l0.drop (t229 : Int).toNat : List (S48))).bind fun y248 => (if y238.length + y248.length < 4398046511104 then (some (y238 ++ y248)) else (none))))) else (none)) = some r := by first | (rw [hy235]; with_reducible exact H) | (have H2_ := (Option.bind_some _ _).symm.trans H; rw [hy235]; with_reducible exact H2_) | (have H2_ := (Option.bind_some _ _).symm.trans H; with_reducible exact H2_) | with_reducible exact H | (rw [hy235]; exact H) | exact H
    have Ny235 := zjaj hy235
    clear hy235
    by_cases c7 : y235.length < 4398046511104
    ·rw [if_pos c7] at H
     have LMc7 := zjaj c7
     clear c7
     obtain ⟨y238, hy238⟩ : ∃ y_ : List (S48), y_ = (y235 ++ [(⟨a1_0, a1_1⟩ : S48)]) := ⟨_, rfl⟩
     replace H : (if t230 = true then (if 0 ≤ (wrap64 (t229 + 1)) then (if (wrap64 (t229 + 1)) ≤ (l0.length : Int) then ((some (l0.drop ((wrap64 (t229 + 1)) : Int).toNat : List (S48))).bind fun y241 => (if y238.length + y241.length < 4398046511104 then (some (y238 ++ y241)) else (none))) else (none)) else (none)) else ((some (l0.drop (t229 : Int).toNat : List (S48))).bind fun y248 => (if y238.length + y248.length < 4398046511104 then (some (y238 ++ y248)) else (none)))) = some r := by first | (rw [hy238]; with_reducible exact H) | (have H2_ := (Option.bind_some _ _).symm.trans H; rw [hy238]; with_reducible exact H2_) | (have H2_ := (Option.bind_some _ _).symm.trans H; with_reducible exact H2_) | with_reducible exact H | (rw [hy238]; exact H) | exact H
     have Ny238 := zjaj hy238
     clear hy238
     by_cases c8 : t230 = true
     ·subst c8
      have H1 : (if 0 ≤ (wrap64 (t229 + 1)) then (if (wrap64 (t229 + 1)) ≤ (l0.length : Int) then ((some (l0.drop ((wrap64 (t229 + 1)) : Int).toNat : List (S48))).bind fun y241 => (if y238.length + y241.length < 4398046511104 then (some (y238 ++ y241)) else (none))) else (none)) else (none)) = some r := by rw [if_pos rfl] at H; exact H
      clear H
      have H := H1
      clear H1
      obtain ⟨ji9, hji9⟩ : ∃ j_ : Int, (wrap64 (t229 + 1)) = j_ := ⟨_, rfl⟩
      replace H : (if 0 ≤ (ji9) then (if (ji9) ≤ (l0.length : Int) then ((some (l0.drop ((ji9) : Int).toNat : List (S48))).bind fun y241 => (if y238.length + y241.length < 4398046511104 then (some (y238 ++ y241)) else (none))) else (none)) else (none)) = some r := by first | (rw [hji9] at H; exact H) | (simp only [hji9] at H ⊢; exact H)
      (try rw [hji9] at A3)
      have hji9w : (IntKind.i64.wrap (t229 + 1)) = ji9 := (i64_w _).trans hji9
      by_cases c10 : 0 ≤ (ji9)
      ·rw [if_pos c10] at H
       have c10b0 := eq_true c10
       have c10b1 : decide (0 ≤ (ji9)) = true := decide_eq_true c10
       clear c10
       by_cases c11 : (ji9) ≤ (l0.length : Int)
       ·rw [if_pos c11] at H
        have c11b0 := eq_true c11
        have c11b1 : decide ((ji9) ≤ (l0.length : Int)) = true := decide_eq_true c11
        clear c11
        obtain ⟨y241, hy241⟩ : ∃ y_ : List (S48), y_ = (l0.drop ((ji9) : Int).toNat) := ⟨_, rfl⟩
        replace H : (if y238.length + y241.length < 4398046511104 then (some (y238 ++ y241)) else (none)) = some r := by first | (rw [hy241]; with_reducible exact H) | (have H2_ := (Option.bind_some _ _).symm.trans H; rw [hy241]; with_reducible exact H2_) | (have H2_ := (Option.bind_some _ _).symm.trans H; with_reducible exact H2_) | with_reducible exact H | (rw [hy241]; exact H) | exact H
        have Ny241 := zjaj hy241
        clear hy241
        by_cases c12 : y238.length + y241.length < 4398046511104
        ·rw [if_pos c12] at H
         have LMc12 := zjaj c12
         clear c12
         obtain ⟨y245, hy245⟩ : ∃ y_ : List (S48), y_ = (y238 ++ y241) := ⟨_, rfl⟩
         replace H : (some y245) = some r := by first | (rw [hy245]; with_reducible exact H) | (have H2_ := (Option.bind_some _ _).symm.trans H; rw [hy245]; with_reducible exact H2_) | (have H2_ := (Option.bind_some _ _).symm.trans H; with_reducible exact H2_) | with_reducible exact H | (rw [hy245]; exact H) | exact H
         have Ny245 := zjaj hy245
         clear hy245
         obtain rfl := Option.some.inj H
         go_enter Try.func63, Try.ntmps63
         go_wp2_with (first | ((with_reducible refine gate_dst (N := 3) rfl ?_); refine box_event ?hg (N := 3) ?hd (cs := #[.string a1_0, .string a1_1]) (t := 48) ?hr ?_; (case hd => rfl); (case hg => rfl); (case hr => first | (go_simp; done) | (go_simp; rfl)); intro zjan hg w13 hbox hb; have n0_ := zjaj (below_step (by repeat (first | (with_reducible first | exact HB.out | apply zjag | apply zjae | apply zjaf) | exact HB.out)) hb); have n1_ := zjaj (hbox); have n2_ := zjaj ((by rw [hg]; exact (below_size (by repeat (first | (with_reducible first | exact HB.out | apply zjag | apply zjae | apply zjaf) | exact HB.out))) : w.heap.size ≤ zjan)); have n3_ := zjaj ((by rw [hg]; exact (below_size (by repeat (first | (with_reducible first | exact HB.out | apply zjag | apply zjae | apply zjaf) | exact HB.out))) : w.heap.size ≤ zjan)); clear HB; have HB := n0_; have zjal := n1_; have zjas := n2_; have zjao := n3_; clear n0_ n1_ n2_ n3_; clear hb hbox hg; have zjat : w13.cell? ⟨zjan, 0, none⟩ = some (.string a1_0) := (zjah zjal.out 0).trans rfl; have zjau : w13.cell? ⟨zjan, 1, none⟩ = some (.string a1_1) := (zjah zjal.out 1).trans rfl; have zjav := zjai zjal.out 0; have zjaw := zjai zjal.out 1) | ((with_reducible refine gate_callee (f := 59) rfl ?_); refine goesL_ (some 12) rfl rfl Try.func59 (by kernel_rfl) rfl #[.slice A0 l0.length c0, .string a1_0] rfl (by (try simp only [List.map_toArray, List.map_cons, List.map_nil]); first | done | rfl) ?_; (with_reducible refine (stowageref04_Find.calls k _ _ l0 a1_0 t229 true _ ?side1 ?side2 A3.out).mono ?_); (case side1 => repeat (first | exact (Kd.C_below HR0.out HB.out) | (with_reducible refine Kd.C_alloc ?_ _) | (with_reducible refine Kd.C_drewN ?_ _) | (with_reducible refine Kd.C_drew ?_))); (case side2 => exact HC0.out); rintro e w' ⟨rfl, ⟨nd, rfl⟩⟩; refine ⟨_, rfl, ?_⟩; have q15 : (t229 : Int) ≤ ((l0.length : Int) : Int) := of_decide_eq_true (by first | (with_reducible assumption) | assumption); obtain ⟨i015, hi015, _, hsz15, _⟩ := info_parts info48; have hroom15 : l0.length ≤ c0 := HC0.out; have hC15 : Kd.C k48 _ A0 l0.length l0 := HR0.out; have hcut15 := cut_to (P := Try.prog) 41 48 .i64 Try.underlying41 hi015 A0 l0.length c0 t229 (of_decide_eq_true (by first | (with_reducible assumption) | assumption)) q15 hroom15; have hr15 := Kd.C_take (m := (t229 : Int).toNat) hC15 (by omega); have hy15 : y231.length = (t229 : Int).toNat := (by rw [Ny231.out, List.length_take]; omega); rw [← Ny231.out] at hr15; rw [← hy15] at hcut15; have HR234 := zjaj hr15; have HC234 := zjaj (show y231.length ≤ c0 from by omega); clear hr15 hC15 hroom15 hi015 hsz15; have KY15 := zjaj hy15; clear hy15; replace q15 := eq_true q15) | ((with_reducible refine gate_builtin (b := .append) (xs := #[.tmp 15, .tmp 18]) rfl ?_); at_builtin; refine Kd.R_append_rows k48 (w0 := w) w.heap.size rfl (.tmp 15) (.tmp 18) 41 48 (.agg #[(.string ⟨#[]⟩), (.string ⟨#[]⟩)]) 32 rfl Try.underlying41 info48 rfl (by decide) (by omega) (.slice none 0 0) ([] : List (S48)) y231 _ _ _ (fun k_ => k_ ≠ zjan) (fun _ => False) rfl rfl ?aO ?aR (fun _ _ h => h) (fun _ h => h.elim) ?aF ?aB ?aS ?aL ?_; (case aR => repeat (first | exact (Kd.C_below HR234.out (by repeat (first | (with_reducible first | exact HB.out | apply zjag | apply zjae | apply zjaf | refine zjad ?_ zjao.out) | exact HB.out))) | (with_reducible refine Kd.C_alloc ?_ _) | (with_reducible refine Kd.C_drewN ?_ _) | (with_reducible refine Kd.C_drew ?_))); (case aB => exact (by repeat (first | (with_reducible first | exact HB.out | apply zjag | apply zjae | apply zjaf | refine zjad ?_ zjao.out) | exact HB.out))); (case aF => exact (fun k_ hk => Kd.freshB (g := zjan) (o := .cells #[.string a1_0, .string a1_1] 48 (0, 0)) (zbk zjal) k_ hk)); (case aO => exact ((Kd.R_nil _ _ _ _ (fun k_ => k_ ≠ zjan)))); (case aS => exact (below_size (by repeat (first | (with_reducible first | exact HB.out | apply zjag | apply zjae | apply zjaf | refine zjad ?_ zjao.out) | exact HB.out)))); (case aL => have := LMc6.out; omega); intro v236 w16 ho hb hg hat; rw [← Ny235.out] at ho; have n0_ := zjaj (blk_grown (g := zjan) (o := .cells #[.string a1_0, .string a1_1] 48 (0, 0)) (zbk zjal) hg (by simp [Value.ownBlock])); have n1_ := zjaj (hb); have n2_ := zjaj (ho); clear zjal; clear HB; have zjal := n0_; have HB := n1_; have HO237 := n2_; clear n0_ n1_ n2_; clear ho hb hg hat; have zjax : w16.cell? ⟨zjan, 0, none⟩ = some (.string a1_0) := (zjah zjal.out 0).trans rfl; have zjay : w16.cell? ⟨zjan, 1, none⟩ = some (.string a1_1) := (zjah zjal.out 1).trans rfl; have zjaz := zjai zjal.out 0; have zjba := zjai zjal.out 1) | ((with_reducible refine gate_builtin (b := .append) (xs := #[.tmp 20, .tmp 22]) rfl ?_); at_builtin; refine Kd.R_append k48 (w0 := w) w.heap.size rfl (.tmp 20) (.tmp 22) 41 48 (.agg #[(.string ⟨#[]⟩), (.string ⟨#[]⟩)]) 32 rfl Try.underlying41 info48 rfl (by decide) (by omega) v236 y235 (⟨a1_0, a1_1⟩ : S48) [.string a1_0, .string a1_1] (fun k_ => k_ ≠ zjan) (fun _ => False) rfl rfl ?aP (fun _ hk => hk.elim) ?aF ?aO ?aB ?aS ?aL ?_; (case aP => exact k48_mkM _ _ _ (⟨a1_0, a1_1⟩ : S48)); (case aB => exact (by repeat (first | (with_reducible first | exact HB.out | apply zjag | apply zjae | apply zjaf | refine zjad ?_ zjao.out) | exact HB.out))); (case aF => exact (fun k_ hk => Kd.freshB (g := zjan) (o := .cells #[.string a1_0, .string a1_1] 48 (0, 0)) (zbk zjal) k_ hk)); (case aO => exact (zrk HO237)); (case aS => exact (below_size (by repeat (first | (with_reducible first | exact HB.out | apply zjag | apply zjae | apply zjaf | refine zjad ?_ zjao.out) | exact HB.out)))); (case aL => have := LMc7.out; omega); intro v239 w18 ho hb hg hat; rw [← Ny238.out] at ho; have n0_ := zjaj (blk_grown (g := zjan) (o := .cells #[.string a1_0, .string a1_1] 48 (0, 0)) (zbk zjal) hg (Kd.R_away HO237.out (fun _ hk => hk))); have n1_ := zjaj (hb); have n2_ := zjaj (ho); clear zjal; clear HB; clear HO237; have zjal := n0_; have HB := n1_; have HO240 := n2_; clear n0_ n1_ n2_; clear ho hb hg hat; have q19 : ((ji9) : Int) ≤ ((l0.length : Int) : Int) := of_decide_eq_true (by first | (with_reducible assumption) | assumption); obtain ⟨i019, hi019, _, hsz19, _⟩ := info_parts info48; have hroom19 : l0.length ≤ c0 := HC0.out; have hC19 : Kd.C k48 _ A0 l0.length l0 := HR0.out; have q019 : (0 : Int) ≤ ((ji9) : Int) := of_decide_eq_true (by first | (with_reducible assumption) | assumption); have hcut19 := cut_from (P := Try.prog) 41 48 .i64 Try.underlying41 hi019 2 hsz19 A0 l0.length c0 (ji9) q019 q19; have hr19 := Kd.C_drop (m := ((ji9) : Int).toNat) (c := c0) hC19 (by omega) hroom19; obtain ⟨A19, hA19⟩ : ∃ A1, A1 = (if c0 = ((ji9) : Int).toNat then A0 else (A0 : Option Addr).map (·.add (((ji9) : Int).toNat * 2))) := ⟨_, rfl⟩; obtain ⟨c19, hc19⟩ : ∃ c1, c1 = c0 - ((ji9) : Int).toNat := ⟨_, rfl⟩; have hy19 : y241.length = l0.length - ((ji9) : Int).toNat := (by rw [Ny241.out, List.length_drop] <;> omega); rw [show (l0).drop ((ji9) : Int).toNat = y241 from Ny241.out.symm] at hr19; replace hr19 : Kd.C k48 _ A19 y241.length y241 := (by rw [hA19]; exact hr19); rw [← hy19, ← hA19, ← hc19] at hcut19; have HR244 := zjaj hr19; have HC244 := zjaj (show y241.length ≤ c19 from by rw [hy19, hc19]; exact Nat.sub_le_sub_right hroom19 _); clear hr19 hC19 hroom19 hi019 hsz19 hc19; have KY19 := zjaj hy19; have KA19 := zjaj hA19; clear hy19 hA19; replace q19 := eq_true q19) | ((with_reducible refine gate_builtin (b := .append) (xs := #[.tmp 27, .tmp 30]) rfl ?_); at_builtin; refine Kd.R_append_rows k48 (w0 := w) w.heap.size rfl (.tmp 27) (.tmp 30) 41 48 (.agg #[(.string ⟨#[]⟩), (.string ⟨#[]⟩)]) 32 rfl Try.underlying41 info48 rfl (by decide) (by omega) v239 y238 y241 _ _ _ (fun k_ => k_ ≠ zjan) (fun _ => False) rfl rfl ?aO ?aR (fun _ _ h => h) (fun _ h => h.elim) ?aF ?aB ?aS ?aL ?_; (case aR => repeat (first | exact (Kd.C_below HR244.out HB.out) | (with_reducible refine Kd.C_alloc ?_ _) | (with_reducible refine Kd.C_drewN ?_ _) | (with_reducible refine Kd.C_drew ?_))); (case aB => exact (by repeat (first | (with_reducible first | exact HB.out | apply zjag | apply zjae | apply zjaf | refine zjad ?_ zjao.out) | exact HB.out))); (case aF => exact (fun k_ hk => Kd.freshB (g := zjan) (o := .cells #[.string a1_0, .string a1_1] 48 (0, 0)) (zbk zjal) k_ hk)); (case aO => exact (zrk HO240)); (case aS => exact (below_size (by repeat (first | (with_reducible first | exact HB.out | apply zjag | apply zjae | apply zjaf | refine zjad ?_ zjao.out) | exact HB.out)))); (case aL => have := LMc12.out; omega); intro v246 w20 ho hb hg hat; rw [← Ny245.out] at ho; have n0_ := zjaj (blk_grown (g := zjan) (o := .cells #[.string a1_0, .string a1_1] 48 (0, 0)) (zbk zjal) hg (Kd.R_away HO240.out (fun _ hk => hk))); have n1_ := zjaj (hb); have n2_ := zjaj (ho); clear zjal; clear HB; clear HO240; have zjal := n0_; have HB := n1_; have HO247 := n2_; clear n0_ n1_ n2_; clear ho hb hg hat))
         go_ret
         exact ⟨_, by first | rfl | (simp [errW_none, errW_some] <;> rfl) | (simp only [← hji9]; first | rfl | (simp [errW_none, errW_some] <;> rfl)) | (simp [*, errW_none, errW_some] <;> rfl), by (with_reducible repeat (first | apply Kd.R_alloc | apply Kd.R_drewN | apply Kd.R_drew)); exact Kd.R_mono HO247.out (fun _ hk => trivial), by repeat (first | (with_reducible first | exact HB.out | apply zjag | apply zjae | apply zjaf | refine zjad ?_ zjao.out) | exact HB.out)⟩
        ·rw [if_neg c12] at H
         exact absurd H (by simp)
       ·rw [if_neg c11] at H
        exact absurd H (by simp)
      ·rw [if_neg c10] at H
       exact absurd H (by simp)
     ·replace c8 := Bool.eq_false_iff.mpr c8
      subst c8
      have H1 : ((some (l0.drop (t229 : Int).toNat : List (S48))).bind fun y248 => (if y238.length + y248.length < 4398046511104 then (some (y238 ++ y248)) else (none))) = some r := by rw [if_neg (show ¬ (false = true) by decide)] at H; exact H
      clear H
      have H := H1
      clear H1
      have c21b0 := eq_true (of_decide_eq_true (by first | (with_reducible assumption) | assumption) : 0 ≤ t229)
      have c22b0 := eq_true (of_decide_eq_true (by first | (with_reducible assumption) | assumption) : t229 ≤ (l0.length : Int))
      obtain ⟨y248, hy248⟩ : ∃ y_ : List (S48), y_ = (l0.drop (t229 : Int).toNat) := ⟨_, rfl⟩
      replace H : (if y238.length + y248.length < 4398046511104 then (some (y238 ++ y248)) else (none)) = some r := by first | (rw [hy248]; with_reducible exact H) | (have H2_ := (Option.bind_some _ _).symm.trans H; rw [hy248]; with_reducible exact H2_) | (have H2_ := (Option.bind_some _ _).symm.trans H; with_reducible exact H2_) | with_reducible exact H | (rw [hy248]; exact H) | exact H
      have Ny248 := zjaj hy248
      clear hy248
      by_cases c23 : y238.length + y248.length < 4398046511104
      ·rw [if_pos c23] at H
       have LMc23 := zjaj c23
       clear c23
       obtain ⟨y252, hy252⟩ : ∃ y_ : List (S48), y_ = (y238 ++ y248) := ⟨_, rfl⟩
       replace H : (some y252) = some r := by first | (rw [hy252]; with_reducible exact H) | (have H2_ := (Option.bind_some _ _).symm.trans H; rw [hy252]; with_reducible exact H2_) | (have H2_ := (Option.bind_some _ _).symm.trans H; with_reducible exact H2_) | with_reducible exact H | (rw [hy252]; exact H) | exact H
       have Ny252 := zjaj hy252
       clear hy252
       obtain rfl := Option.some.inj H
       go_enter Try.func63, Try.ntmps63
       go_wp2_with (first | ((with_reducible refine gate_dst (N := 3) rfl ?_); refine box_event ?hg (N := 3) ?hd (cs := #[.string a1_0, .string a1_1]) (t := 48) ?hr ?_; (case hd => rfl); (case hg => rfl); (case hr => first | (go_simp; done) | (go_simp; rfl)); intro zjan hg w24 hbox hb; have n0_ := zjaj (below_step (by repeat (first | (with_reducible first | exact HB.out | apply zjag | apply zjae | apply zjaf) | exact HB.out)) hb); have n1_ := zjaj (hbox); have n2_ := zjaj ((by rw [hg]; exact (below_size (by repeat (first | (with_reducible first | exact HB.out | apply zjag | apply zjae | apply zjaf) | exact HB.out))) : w.heap.size ≤ zjan)); have n3_ := zjaj ((by rw [hg]; exact (below_size (by repeat (first | (with_reducible first | exact HB.out | apply zjag | apply zjae | apply zjaf) | exact HB.out))) : w.heap.size ≤ zjan)); clear HB; have HB := n0_; have zjal := n1_; have zjas := n2_; have zjao := n3_; clear n0_ n1_ n2_ n3_; clear hb hbox hg; have zjbb : w24.cell? ⟨zjan, 0, none⟩ = some (.string a1_0) := (zjah zjal.out 0).trans rfl; have zjbc : w24.cell? ⟨zjan, 1, none⟩ = some (.string a1_1) := (zjah zjal.out 1).trans rfl; have zjbd := zjai zjal.out 0; have zjbe := zjai zjal.out 1) | ((with_reducible refine gate_callee (f := 59) rfl ?_); refine goesL_ (some 12) rfl rfl Try.func59 (by kernel_rfl) rfl #[.slice A0 l0.length c0, .string a1_0] rfl (by (try simp only [List.map_toArray, List.map_cons, List.map_nil]); first | done | rfl) ?_; (with_reducible refine (stowageref04_Find.calls k _ _ l0 a1_0 t229 false _ ?side1 ?side2 A3.out).mono ?_); (case side1 => repeat (first | exact (Kd.C_below HR0.out HB.out) | (with_reducible refine Kd.C_alloc ?_ _) | (with_reducible refine Kd.C_drewN ?_ _) | (with_reducible refine Kd.C_drew ?_))); (case side2 => exact HC0.out); rintro e w' ⟨rfl, ⟨nd, rfl⟩⟩; refine ⟨_, rfl, ?_⟩; have q26 : (t229 : Int) ≤ ((l0.length : Int) : Int) := of_decide_eq_true (by first | (with_reducible assumption) | assumption); obtain ⟨i026, hi026, _, hsz26, _⟩ := info_parts info48; have hroom26 : l0.length ≤ c0 := HC0.out; have hC26 : Kd.C k48 _ A0 l0.length l0 := HR0.out; have hcut26 := cut_to (P := Try.prog) 41 48 .i64 Try.underlying41 hi026 A0 l0.length c0 t229 (of_decide_eq_true (by first | (with_reducible assumption) | assumption)) q26 hroom26; have hr26 := Kd.C_take (m := (t229 : Int).toNat) hC26 (by omega); have hy26 : y231.length = (t229 : Int).toNat := (by rw [Ny231.out, List.length_take]; omega); rw [← Ny231.out] at hr26; rw [← hy26] at hcut26; have HR234 := zjaj hr26; have HC234 := zjaj (show y231.length ≤ c0 from by omega); clear hr26 hC26 hroom26 hi026 hsz26; have KY26 := zjaj hy26; clear hy26; replace q26 := eq_true q26) | ((with_reducible refine gate_builtin (b := .append) (xs := #[.tmp 15, .tmp 18]) rfl ?_); at_builtin; refine Kd.R_append_rows k48 (w0 := w) w.heap.size rfl (.tmp 15) (.tmp 18) 41 48 (.agg #[(.string ⟨#[]⟩), (.string ⟨#[]⟩)]) 32 rfl Try.underlying41 info48 rfl (by decide) (by omega) (.slice none 0 0) ([] : List (S48)) y231 _ _ _ (fun k_ => k_ ≠ zjan) (fun _ => False) rfl rfl ?aO ?aR (fun _ _ h => h) (fun _ h => h.elim) ?aF ?aB ?aS ?aL ?_; (case aR => repeat (first | exact (Kd.C_below HR234.out (by repeat (first | (with_reducible first | exact HB.out | apply zjag | apply zjae | apply zjaf | refine zjad ?_ zjao.out) | exact HB.out))) | (with_reducible refine Kd.C_alloc ?_ _) | (with_reducible refine Kd.C_drewN ?_ _) | (with_reducible refine Kd.C_drew ?_))); (case aB => exact (by repeat (first | (with_reducible first | exact HB.out | apply zjag | apply zjae | apply zjaf | refine zjad ?_ zjao.out) | exact HB.out))); (case aF => exact (fun k_ hk => Kd.freshB (g := zjan) (o := .cells #[.string a1_0, .string a1_1] 48 (0, 0)) (zbk zjal) k_ hk)); (case aO => exact ((Kd.R_nil _ _ _ _ (fun k_ => k_ ≠ zjan)))); (case aS => exact (below_size (by repeat (first | (with_reducible first | exact HB.out | apply zjag | apply zjae | apply zjaf | refine zjad ?_ zjao.out) | exact HB.out)))); (case aL => have := LMc6.out; omega); intro v236 w27 ho hb hg hat; rw [← Ny235.out] at ho; have n0_ := zjaj (blk_grown (g := zjan) (o := .cells #[.string a1_0, .string a1_1] 48 (0, 0)) (zbk zjal) hg (by simp [Value.ownBlock])); have n1_ := zjaj (hb); have n2_ := zjaj (ho); clear zjal; clear HB; have zjal := n0_; have HB := n1_; have HO237 := n2_; clear n0_ n1_ n2_; clear ho hb hg hat; have zjbf : w27.cell? ⟨zjan, 0, none⟩ = some (.string a1_0) := (zjah zjal.out 0).trans rfl; have zjbg : w27.cell? ⟨zjan, 1, none⟩ = some (.string a1_1) := (zjah zjal.out 1).trans rfl; have zjbh := zjai zjal.out 0; have zjbi := zjai zjal.out 1) | ((with_reducible refine gate_builtin (b := .append) (xs := #[.tmp 20, .tmp 22]) rfl ?_); at_builtin; refine Kd.R_append k48 (w0 := w) w.heap.size rfl (.tmp 20) (.tmp 22) 41 48 (.agg #[(.string ⟨#[]⟩), (.string ⟨#[]⟩)]) 32 rfl Try.underlying41 info48 rfl (by decide) (by omega) v236 y235 (⟨a1_0, a1_1⟩ : S48) [.string a1_0, .string a1_1] (fun k_ => k_ ≠ zjan) (fun _ => False) rfl rfl ?aP (fun _ hk => hk.elim) ?aF ?aO ?aB ?aS ?aL ?_; (case aP => exact k48_mkM _ _ _ (⟨a1_0, a1_1⟩ : S48)); (case aB => exact (by repeat (first | (with_reducible first | exact HB.out | apply zjag | apply zjae | apply zjaf | refine zjad ?_ zjao.out) | exact HB.out))); (case aF => exact (fun k_ hk => Kd.freshB (g := zjan) (o := .cells #[.string a1_0, .string a1_1] 48 (0, 0)) (zbk zjal) k_ hk)); (case aO => exact (zrk HO237)); (case aS => exact (below_size (by repeat (first | (with_reducible first | exact HB.out | apply zjag | apply zjae | apply zjaf | refine zjad ?_ zjao.out) | exact HB.out)))); (case aL => have := LMc7.out; omega); intro v239 w29 ho hb hg hat; rw [← Ny238.out] at ho; have n0_ := zjaj (blk_grown (g := zjan) (o := .cells #[.string a1_0, .string a1_1] 48 (0, 0)) (zbk zjal) hg (Kd.R_away HO237.out (fun _ hk => hk))); have n1_ := zjaj (hb); have n2_ := zjaj (ho); clear zjal; clear HB; clear HO237; have zjal := n0_; have HB := n1_; have HO240 := n2_; clear n0_ n1_ n2_; clear ho hb hg hat; have q30 : (t229 : Int) ≤ ((l0.length : Int) : Int) := of_decide_eq_true (by first | (with_reducible assumption) | assumption); obtain ⟨i030, hi030, _, hsz30, _⟩ := info_parts info48; have hroom30 : l0.length ≤ c0 := HC0.out; have hC30 : Kd.C k48 _ A0 l0.length l0 := HR0.out; have q030 : (0 : Int) ≤ (t229 : Int) := of_decide_eq_true (by first | (with_reducible assumption) | assumption); have hcut30 := cut_from (P := Try.prog) 41 48 .i64 Try.underlying41 hi030 2 hsz30 A0 l0.length c0 t229 q030 q30; have hr30 := Kd.C_drop (m := (t229 : Int).toNat) (c := c0) hC30 (by omega) hroom30; obtain ⟨A30, hA30⟩ : ∃ A1, A1 = (if c0 = (t229 : Int).toNat then A0 else (A0 : Option Addr).map (·.add ((t229 : Int).toNat * 2))) := ⟨_, rfl⟩; obtain ⟨c30, hc30⟩ : ∃ c1, c1 = c0 - (t229 : Int).toNat := ⟨_, rfl⟩; have hy30 : y248.length = l0.length - (t229 : Int).toNat := (by rw [Ny248.out, List.length_drop] <;> omega); rw [show (l0).drop (t229 : Int).toNat = y248 from Ny248.out.symm] at hr30; replace hr30 : Kd.C k48 _ A30 y248.length y248 := (by rw [hA30]; exact hr30); rw [← hy30, ← hA30, ← hc30] at hcut30; have HR251 := zjaj hr30; have HC251 := zjaj (show y248.length ≤ c30 from by rw [hy30, hc30]; exact Nat.sub_le_sub_right hroom30 _); clear hr30 hC30 hroom30 hi030 hsz30 hc30; have KY30 := zjaj hy30; have KA30 := zjaj hA30; clear hy30 hA30; replace q30 := eq_true q30) | ((with_reducible refine gate_builtin (b := .append) (xs := #[.tmp 27, .tmp 30]) rfl ?_); at_builtin; refine Kd.R_append_rows k48 (w0 := w) w.heap.size rfl (.tmp 27) (.tmp 30) 41 48 (.agg #[(.string ⟨#[]⟩), (.string ⟨#[]⟩)]) 32 rfl Try.underlying41 info48 rfl (by decide) (by omega) v239 y238 y248 _ _ _ (fun k_ => k_ ≠ zjan) (fun _ => False) rfl rfl ?aO ?aR (fun _ _ h => h) (fun _ h => h.elim) ?aF ?aB ?aS ?aL ?_; (case aR => repeat (first | exact (Kd.C_below HR251.out HB.out) | (with_reducible refine Kd.C_alloc ?_ _) | (with_reducible refine Kd.C_drewN ?_ _) | (with_reducible refine Kd.C_drew ?_))); (case aB => exact (by repeat (first | (with_reducible first | exact HB.out | apply zjag | apply zjae | apply zjaf | refine zjad ?_ zjao.out) | exact HB.out))); (case aF => exact (fun k_ hk => Kd.freshB (g := zjan) (o := .cells #[.string a1_0, .string a1_1] 48 (0, 0)) (zbk zjal) k_ hk)); (case aO => exact (zrk HO240)); (case aS => exact (below_size (by repeat (first | (with_reducible first | exact HB.out | apply zjag | apply zjae | apply zjaf | refine zjad ?_ zjao.out) | exact HB.out)))); (case aL => have := LMc23.out; omega); intro v253 w31 ho hb hg hat; rw [← Ny252.out] at ho; have n0_ := zjaj (blk_grown (g := zjan) (o := .cells #[.string a1_0, .string a1_1] 48 (0, 0)) (zbk zjal) hg (Kd.R_away HO240.out (fun _ hk => hk))); have n1_ := zjaj (hb); have n2_ := zjaj (ho); clear zjal; clear HB; clear HO240; have zjal := n0_; have HB := n1_; have HO254 := n2_; clear n0_ n1_ n2_; clear ho hb hg hat))
       go_ret
       exact ⟨_, by first | rfl | (simp [errW_none, errW_some] <;> rfl) | (simp [*, errW_none, errW_some] <;> rfl), by (with_reducible repeat (first | apply Kd.R_alloc | apply Kd.R_drewN | apply Kd.R_drew)); exact Kd.R_mono HO254.out (fun _ hk => trivial), by repeat (first | (with_reducible first | exact HB.out | apply zjag | apply zjae | apply zjaf | refine zjad ?_ zjao.out) | exact HB.out)⟩
      ·rw [if_neg c23] at H
       exact absurd H (by simp)
    ·rw [if_neg c7] at H
     exact absurd H (by simp)
   ·rw [if_neg c6] at H
    exact absurd H (by simp)
  ·rw [if_neg c5] at H
   exact absurd H (by simp)
 ·rw [if_neg c4] at H
  exact absurd H (by simp)

/-! ### stowageref04_without: function 64 -/
def stowageref04_without.l0 : Nat → List (S48) → ByteArray → List (S48) → Int → Option ((List (S48)))
 | 0, _, _, _, _ => none
 | k + 1, x0, x1, x5, x6 => if x6 < (x0.length : Int) then (if 0 ≤ x6 then (if ((rd_T48 x0 x6).f0).toList = x1.toList then (stowageref04_without.l0 k x0 x1 x5 (wrap64 (x6 + 1))) else (if x5.length < 4398046511104 then (stowageref04_without.l0 k x0 x1 (x5 ++ [(⟨(rd_T48 x0 x6).f0, (rd_T48 x0 x6).f1⟩ : S48)]) (wrap64 (x6 + 1))) else (none))) else (none)) else (some x5)
def stowageref04_without.f (k : Nat) (l0 : List (S48)) (a1 : ByteArray) : Option ((List (S48))) := stowageref04_without.l0 k l0 a1 ([] : List (S48)) 0
set_option maxHeartbeats 8000000 in
set_option maxRecDepth 100000 in
theorem stowageref04_without.calls (k : Nat) (A0 : Option Addr) (c0 : Nat) (l0 : List (S48)) (a1 : ByteArray) (r : List (S48)) (w : World) (hr0 : Kd.C k48 w A0 l0.length l0) (hc0 : l0.length ≤ c0) (h : stowageref04_without.f k l0 a1 = some r) :
  Calls Try.prog 64 #[.slice A0 l0.length c0, .string a1] w fun e w' => ∃ v0_ : Value, e = .returned (v0_) ∧ Kd.R k48 48 w' w.heap.size (fun _ => True) v0_ r ∧ Below w.heap.size w w' := by
 have hu48 := Try.underlying48
 have HR0 := zjaj hr0
 have HC0 := zjaj hc0
 clear hr0 hc0
 have HB := zjaj (Below.refl w.heap.size w)
 have H : (stowageref04_without.l0 k l0 a1 ([] : List (S48)) 0) = some r := h
 clear h
 have H' := zjaj H
 clear H
 go_enter Try.func64, Try.ntmps64
 go_wp2
 go_loopg [5, 6] k (fun kq v5 v6 w' => ∃ (zjam : List (S48)) (zjak : Int), v6 = .int .i64 zjak ∧ Aside0 (stowageref04_without.l0 kq l0 a1 zjam zjak = some r) ∧ Aside0 (kq ≤ k) ∧ Aside0 (Kd.R k48 48 w' w.heap.size (fun _ => True) v5 zjam) ∧ Aside0 (Below w.heap.size w w'))
 case atStart => exact ⟨(([] : List (S48))), (0), (by first | rfl | (simp; done) | (simp [*]; done)), H', ⟨Nat.le_refl _⟩, ⟨by first | exact Kd.R_nil _ _ _ _ _ | exact Kd.N_nil _ _ _ _ _ | exact Kd.V_nil _ _ _ _ _ | exact Kd.Q_nil _ _ _ _ _ | exact Kd.S_nil _ _ _ _ _⟩, ⟨by repeat (first | (with_reducible first | exact HB.out | apply zjag | apply zjae | apply zjaf) | exact HB.out)⟩⟩
 case round =>
  clear H'
  try clear p2
  obtain ⟨zjam, zjak, rfl, HA, HK1, HO_5, HB⟩ := hrel
  cases gk with
  | zero => exact absurd HA.out (by simp [stowageref04_without.l0])
  | succ k1 =>
   have H := HA.out
   clear HA
   simp only [stowageref04_without.l0] at H
   by_cases c3 : zjak < (l0.length : Int)
   ·rw [if_pos c3] at H
    have c3b0 : decide (zjak < (l0.length : Int)) = true := decide_eq_true c3
    clear c3
    by_cases c4 : 0 ≤ zjak
    ·rw [if_pos c4] at H
     have c4b0 : decide (0 ≤ zjak) = true := decide_eq_true c4
     clear c4
     by_cases c5 : ((rd_T48 l0 zjak).f0).toList = a1.toList
     ·rw [if_pos c5] at H
      have c5b0 : (((rd_T48 l0 zjak).f0).toList == a1.toList) = true := beq_iff_eq.mpr c5
      have c5b1 : (((rd_T48 l0 zjak).f0).toList != a1.toList) = false := bne_eq_false_iff_eq.mpr c5
      clear c5
      have H' := zjaj H
      clear H
      have p255 : 0 ≤ (zjak : Int) := of_decide_eq_true (by first | (with_reducible assumption) | assumption)
      have q255 : zjak < (l0.length : Int) := of_decide_eq_true (by first | (with_reducible assumption) | assumption)
      obtain ⟨ad255, e255, hx255_0, hx255_1⟩ := at_T48 HR0.out zjak p255 q255
      cases e255
      replace hx255_0 := (HB.out.cell (World.block_lt_of_cell? w _ hx255_0)).trans hx255_0
      replace hx255_1 := (HB.out.cell (World.block_lt_of_cell? w _ hx255_1)).trans hx255_1
      replace p255 := eq_true p255
      replace q255 := eq_true q255
      go_wp2
      go_roundg k1
      case measure => have := HK1.out; omega
      case rel => exact ⟨(zjam), (wrap64 (zjak + 1)), (by first | rfl | (simp; done) | (simp [*]; done)), H', ⟨by have := HK1.out; omega⟩, ⟨zrk HO_5⟩, ⟨by repeat (first | (with_reducible first | exact HB.out | apply zjag | apply zjae | apply zjaf) | exact HB.out)⟩⟩
     ·rw [if_neg c5] at H
      have c5b0 : (((rd_T48 l0 zjak).f0).toList == a1.toList) = false := beq_eq_false_iff_ne.mpr c5
      have c5b1 : (((rd_T48 l0 zjak).f0).toList != a1.toList) = true := bne_iff_ne.mpr c5
      by_cases c6 : zjam.length < 4398046511104
      ·rw [if_pos c6] at H
       have LMc6 := zjaj c6
       clear c6
       obtain ⟨y257, hy257⟩ : ∃ y_ : List (S48), y_ = (zjam ++ [(⟨(rd_T48 l0 zjak).f0, (rd_T48 l0 zjak).f1⟩ : S48)]) := ⟨_, rfl⟩
       replace H : (stowageref04_without.l0 k1 l0 a1 y257 (wrap64 (zjak + 1))) = some r := by first | (rw [hy257]; with_reducible exact H) | (have H2_ := (Option.bind_some _ _).symm.trans H; rw [hy257]; with_reducible exact H2_) | (have H2_ := (Option.bind_some _ _).symm.trans H; with_reducible exact H2_) | with_reducible exact H | (rw [hy257]; exact H) | exact H
       have Ny257 := zjaj hy257
       clear hy257
       have H' := zjaj H
       clear H
       have p255 : 0 ≤ (zjak : Int) := of_decide_eq_true (by first | (with_reducible assumption) | assumption)
       have q255 : zjak < (l0.length : Int) := of_decide_eq_true (by first | (with_reducible assumption) | assumption)
       obtain ⟨ad255, e255, hx255_0, hx255_1⟩ := at_T48 HR0.out zjak p255 q255
       cases e255
       replace hx255_0 := (HB.out.cell (World.block_lt_of_cell? w _ hx255_0)).trans hx255_0
       replace hx255_1 := (HB.out.cell (World.block_lt_of_cell? w _ hx255_1)).trans hx255_1
       replace p255 := eq_true p255
       replace q255 := eq_true q255
       have p256 : 0 ≤ (zjak : Int) := of_decide_eq_true (by first | (with_reducible assumption) | assumption)
       have q256 : zjak < (l0.length : Int) := of_decide_eq_true (by first | (with_reducible assumption) | assumption)
       obtain ⟨ad256, e256, hx256_0, hx256_1⟩ := at_T48 HR0.out zjak p256 q256
       obtain rfl : ad255 = ad256 := (by injection e256)
       replace hx256_0 := (HB.out.cell (World.block_lt_of_cell? w _ hx256_0)).trans hx256_0
       replace hx256_1 := (HB.out.cell (World.block_lt_of_cell? w _ hx256_1)).trans hx256_1
       replace p256 := eq_true p256
       replace q256 := eq_true q256
       go_wp2_with (first | ((with_reducible refine gate_builtin (b := .append) (xs := #[.tmp 20, .tmp 25]) rfl ?_); at_builtin; refine Kd.R_append k48 (w0 := w) w.heap.size rfl (.tmp 20) (.tmp 25) 41 48 (.agg #[(.string ⟨#[]⟩), (.string ⟨#[]⟩)]) 32 rfl Try.underlying41 info48 rfl (by decide) (by omega) u5 zjam (⟨(rd_T48 l0 zjak).f0, (rd_T48 l0 zjak).f1⟩ : S48) [.string ((rd_T48 l0 zjak).f0), .string ((rd_T48 l0 zjak).f1)] (fun _ => True) (fun _ => False) rfl rfl ?aP (fun _ hk => hk.elim) ?aF ?aO ?aB ?aS ?aL ?_; (case aP => exact k48_mkM _ _ _ (⟨(rd_T48 l0 zjak).f0, (rd_T48 l0 zjak).f1⟩ : S48)); (case aB => exact (by repeat (first | (with_reducible first | exact HB.out | apply zjag | apply zjae | apply zjaf) | exact HB.out))); (case aF => exact (fun _ _ => trivial)); (case aO => exact (zrk HO_5)); (case aS => exact (below_size (by repeat (first | (with_reducible first | exact HB.out | apply zjag | apply zjae | apply zjaf) | exact HB.out)))); (case aL => have := LMc6.out; omega); intro v258 w7 ho hb hg hat; rw [← Ny257.out] at ho; have n0_ := zjaj (hb); have n1_ := zjaj (ho); clear HB; clear HO_5; have HB := n0_; have HO259 := n1_; clear n0_ n1_; clear ho hb hg hat))
       go_roundg k1
       case measure => have := HK1.out; omega
       case rel => exact ⟨(y257), (wrap64 (zjak + 1)), (by first | rfl | (simp; done) | (simp [*]; done)), H', ⟨by have := HK1.out; omega⟩, ⟨zrk HO259⟩, ⟨by repeat (first | (with_reducible first | exact HB.out | apply zjag | apply zjae | apply zjaf) | exact HB.out)⟩⟩
      ·rw [if_neg c6] at H
       exact absurd H (by simp)
    ·rw [if_neg c4] at H
     exact absurd H (by simp)
   ·rw [if_neg c3] at H
    have c3b0 : decide (zjak < (l0.length : Int)) = false := decide_eq_false c3
    clear c3
    obtain rfl := Option.some.inj H
    go_wp2
    go_ret
    exact ⟨_, by first | rfl | (simp [errW_none, errW_some] <;> rfl) | (simp [*, errW_none, errW_some] <;> rfl), by exact zrk HO_5, by repeat (first | (with_reducible first | exact HB.out | apply zjag | apply zjae | apply zjaf) | exact HB.out)⟩

end Go.Proofs.Ytabngibognlmoaa.Q