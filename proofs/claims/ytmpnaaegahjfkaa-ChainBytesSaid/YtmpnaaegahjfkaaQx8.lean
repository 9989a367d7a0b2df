

/- Written by a program of this session (wip/patch_print.py over the kit's print): functions of the given program as plain Lean functions, and that each call does what its function says, under no further conditions. -/
import Derived.Test.YtmpnaaegahjfkaaQx0
import Derived.Test.YtmpnaaegahjfkaaQx5
import Derived.Test.YtmpnaaegahjfkaaQx6
import Derived.Test.YtmpnaaegahjfkaaQx7
namespace Go.Proofs.Ytmpnaaegahjfkaa.Q
open Go.RowKit Go.Proofs.YtmpnaaegahjfkaaW.PrintWords Go.Proofs.YtmpnaaegahjfkaaW.PrintLast Go.Proofs.YtmpnaaegahjfkaaW.PrintMore
attribute [local go_sem] max2_int min2_int max_two min_two max_three min_three max_four min_four   -- for this text's walks alone
set_option linter.unusedVariables false
set_option linter.unusedSimpArgs false
attribute [local go_sem] xor_ones_u8 xor_ones_u16 xor_ones_u32 xor_ones_u64 cell_twice frozen_twice
-- NOT PRINTED: function 59 (api_Version)

abbrev zaiaa := @List.setIfInBounds_toArray
abbrev zaiab := @List.set_cons_zero
abbrev zaiac := @List.set_cons_succ
abbrev zaiad := @World.block_lt_of_cell?
abbrev zaiae := @blk_drewN
abbrev zaiaf := @blk_alloc
abbrev zaiag := @blk_drew
abbrev zaiah := @below_set
abbrev zaiai := @pw_below_drewN
abbrev zaiaj := @below_drew1
abbrev zaiak := @below_alloc
abbrev zaial := @blk_cell
abbrev zaiam := @blk_frozen
abbrev zaian := @List.map_toArray
abbrev zaiao := @List.map_cons
abbrev zaiap := @List.map_nil
abbrev zaiaq := @Aside0.mk
abbrev zaisq0 : Array Bool := #[false, false, false, false, false, false, false, false, false, false, false]
abbrev zaisq1 : Array Bool := #[true, false, false, false, false, false, false, false, false, false, false]
abbrev zaisq2 : Array Bool := #[true, true, false, false, false, false, false, false, false, false, false]
abbrev zaisq3 : Array Bool := #[true, true, true, false, false, false, false, false, false, false, false]
abbrev zaisq4 : Array Bool := #[true, true, true, true, false, false, false, false, false, false, false]
abbrev zaisq5 : Array Bool := #[true, true, true, true, true, false, false, false, false, false, false]
abbrev zaisq6 : Array Bool := #[true, true, true, true, true, true, false, false, false, false, false]
abbrev zaisq7 : Array Bool := #[true, true, true, true, true, true, true, false, false, false, false]
abbrev zaisq8 : Array Bool := #[true, true, true, true, true, true, true, true, false, false, false]
abbrev zaisq9 : Array Bool := #[true, true, true, true, true, true, true, true, true, false, false]
abbrev zaisq10 : Array Bool := #[true, true, true, true, true, true, true, true, true, true, false]
abbrev zaisq11 : Array Bool := #[true, true, true, true, true, true, true, true, true, true, true]
set_option maxHeartbeats 8000000 in
set_option maxRecDepth 100000 in
theorem at1_calls (x0 : Int) (x1 : Bool) (x2 : Int) (x3 : ByteArray) (A : Option Addr) (n c : Nat) (id : Int) (g : Nat) (W : World) (hp : W.cell? ⟨g, 0, none⟩ = some (.int .i64 id)) :
  Calls Try.prog 60 #[.agg #[.int .i64 x0, .bool x1, .int .i64 x2, .string x3, .slice A n c], .pointer (some ⟨g, 0, none⟩)] W fun e w' => e = .returned (.bool (x0 == id)) ∧ Below W.heap.size W w' := by
 have hg := zaiad W _ hp
 have hne : g ≠ W.heap.size := by simp only at hg; omega
 have hu24 := Try.underlying24
 go_enter Try.func60, Try.ntmps60
 go_wp2
 go_ret
 exact ⟨rfl, zaiak (Below.refl _ _) _⟩
def atF (l : List S24) (id : Int) : Int := match l.findIdx? (fun v => v.f0 == id) with | some i => (i : Int) | none => -1
set_option maxHeartbeats 8000000 in
set_option maxRecDepth 100000 in
theorem atF_found {l : List S24} {id : Int} {j : Nat} (hj : j < l.length) (h : ∀ i, i < j → ((l.getD i z24).f0 == id) = false) (hx : ((l.getD j z24).f0 == id) = true) : atF l id = j := by
 have e : l.findIdx? (fun v => v.f0 == id) = some j := by
  rw [List.findIdx?_eq_some_iff_getElem]
  refine ⟨hj, ?_, fun i hi => ?_⟩
  ·rw [List.getD_eq_getElem?_getD, List.getElem?_eq_getElem hj] at hx
   exact hx
  ·have := h i hi
   rw [List.getD_eq_getElem?_getD, List.getElem?_eq_getElem (by omega)] at this
   simpa using this
 unfold atF
 rw [e]
set_option maxHeartbeats 8000000 in
set_option maxRecDepth 100000 in
theorem atF_none {l : List S24} {id : Int} (h : ∀ i, i < l.length → ((l.getD i z24).f0 == id) = false) : atF l id = -1 := by
 have e : l.findIdx? (fun v => v.f0 == id) = none := by
  rw [List.findIdx?_eq_none_iff]
  intro x hx
  obtain ⟨i, hi, rfl⟩ := List.mem_iff_getElem.1 hx
  have := h i hi
  rw [List.getD_eq_getElem?_getD, List.getElem?_eq_getElem hi] at this
  simpa using this
 unfold atF
 rw [e]
set_option maxHeartbeats 8000000 in
set_option maxRecDepth 100000 in
theorem ixf_calls (A : Option Addr) (c : Nat) (l : List S24) (id : Int) (g : Nat) (w : World) (hr : Kd.C k24 w A l.length l) (hp : w.cell? ⟨g, 0, none⟩ = some (.int .i64 id)) :
  Calls Try.prog 59 #[.slice A l.length c, .func (.func 60) #[] #[.pointer (some ⟨g, 0, none⟩)]] w fun e w' => e = .returned (.int .i64 (atF l id)) ∧ Below w.heap.size w w' := by
 have HR := zaiaq hr
 have HP := zaiaq hp
 have HM := zaiaq (Kd.C_max hr)
 have hu24 := Try.underlying24
 clear hr hp
 go_enter Try.func59, Try.ntmps59
 go_wp2_with (fail)
 go_loopg [8] (l.length + 1) (fun kq v8 w' => ∃ j : Nat, v8 = .int .i64 (j : Int) ∧ Aside0 (j + kq = l.length + 1 ∧ j ≤ l.length) ∧ Aside0 (∀ i, i < j → ((l.getD i z24).f0 == id) = false) ∧ Aside0 (Below w.heap.size w w'))
 case atStart => exact ⟨0, rfl, ⟨by omega, by omega⟩, ⟨fun i hi => by omega⟩, ⟨Below.refl _ _⟩⟩
 case round =>
  obtain ⟨j, rfl, HJ, HN, HB⟩ := hrel
  cases gk with
  | zero => have := HJ.out; omega
  | succ k1 =>
   by_cases hj : j < l.length
   ·have hlt : ((j : Int) < (l.length : Int)) = True := eq_true (by omega)
    obtain ⟨ad, A4, c4, e, h0, h1, h2, h3, h4, _, _⟩ := at_T24 HR.out (j : Int) (by omega) (by omega)
    subst e
    rw [Int.toNat_natCast] at h0 h1 h2 h3 h4
    replace h0 := (HB.out.cell (zaiad w _ h0)).trans h0
    replace h1 := (HB.out.cell (zaiad w _ h1)).trans h1
    replace h2 := (HB.out.cell (zaiad w _ h2)).trans h2
    replace h3 := (HB.out.cell (zaiad w _ h3)).trans h3
    replace h4 := (HB.out.cell (zaiad w _ h4)).trans h4
    obtain ⟨x, hx⟩ : ∃ x : S24, x = l.getD j z24 := ⟨_, rfl⟩
    rw [show rd_T24 l (j : Int) = x by rw [hx]; rfl] at h0 h1 h2 h3 h4
    have HX := zaiaq hx
    clear hx
    go_wp2_with (fail)
    refine (at1_calls x.f0 x.f1 x.f2 x.f3 A4 x.f4.length c4 id g wr ((HB.out.cell (zaiad w _ HP.out)).trans HP.out)).mono ?_
    rintro e w1 ⟨rfl, hb⟩
    have HB1 := zaiaq (below_step HB.out hb)
    clear hb h0 h1 h2 h3 h4
    by_cases hq : x.f0 = id
    ·have hq2 : (x.f0 == id) = true := beq_iff_eq.mpr hq
     have HF := zaiaq (atF_found (id := id) hj HN.out (by rw [← HX.out]; exact hq2))
     clear hq
     go_wp2
     go_ret
     exact ⟨by rw [HF.out]; rfl, HB1.out⟩
    ·have hq2 : (x.f0 == id) = false := beq_eq_false_iff_ne.mpr hq
     have HQ := zaiaq hq2
     clear hq
     go_wp2
     go_roundg k1
     case measure => have := HJ.out; omega
     case rel => exact ⟨j + 1, by have := HM.out; rw [IntWalk.wrap64_in _ (by omega)]; rfl, ⟨by have := HJ.out; omega, by omega⟩, ⟨fun i hi => by
      by_cases h : i < j
      ·exact HN.out i h
      ·rw [show i = j by omega, ← HX.out]; exact HQ.out⟩, HB1⟩
   ·obtain rfl : j = l.length := by have := HJ.out; omega
    have hlt : ((l.length : Int) < (l.length : Int)) = False := eq_false (by omega)
    go_wp2
    go_ret
    exact ⟨by rw [atF_none HN.out]; rfl, HB.out⟩
def chain_at.f (l0 : List S24) (a1 : Int) : Option Int := some (atF l0 a1)
set_option maxHeartbeats 8000000 in
set_option maxRecDepth 100000 in
theorem chain_at.calls (A0 : Option Addr) (c0 : Nat) (l0 : List S24) (a1 : Int) (r : Int) (w : World) (hr0 : Kd.C k24 w A0 l0.length l0) (hc0 : l0.length ≤ c0) (h : chain_at.f l0 a1 = some r) :
  Calls Try.prog 41 #[.slice A0 l0.length c0, .int .i64 a1] w fun e w' => e = .returned (.int .i64 r) ∧ Below w.heap.size w w' := by
 obtain rfl := Option.some.inj h
 have HR := zaiaq hr0
 clear h hr0 hc0
 go_enter Try.func41, Try.ntmps41
 go_wp2_with (fail)
 refine (ixf_calls A0 c0 l0 a1 w.heap.size (w.alloc (.cells #[.int .i64 a1] 3)) (Kd.C_alloc HR.out _) ((zaial (heap_alloc_new w _) 0).trans rfl)).mono ?_
 rintro e w1 ⟨rfl, hb⟩
 have B1 : Aside0 (Below w.heap.size w w1) := ⟨below_step (zaiak (Below.refl _ _) _) hb⟩
 clear hb
 go_wp2
 go_ret
 exact ⟨rfl, B1.out⟩

set_option maxHeartbeats 8000000 in
set_option maxRecDepth 100000 in
theorem Reps_app {α : Type} {R : α → List Value → Prop} {sz : Nat} {ps qs : List α} {cs ds : List Value} (h : Reps R sz ps cs) (h2 : Reps R sz qs ds) : Reps R sz (ps ++ qs) (cs ++ ds) := by
 refine ⟨by rw [List.length_append, h.1, h2.1, List.length_append, Nat.add_mul], fun j q hq => ?_⟩
 rcases Nat.lt_or_ge j ps.length with hj | hj
 ·rw [List.getElem?_append_left hj] at hq
  have h1 : j * sz + sz ≤ cs.length := by rw [h.1, ← Nat.succ_mul]; exact Nat.mul_le_mul_right _ hj
  rw [List.drop_append_of_le_length (by omega), List.take_append_of_le_length (by rw [List.length_drop]; omega)]
  exact h.2 j q hq
 ·rw [List.getElem?_append_right hj] at hq
  have e : j * sz = cs.length + (j - ps.length) * sz := by rw [h.1, ← Nat.add_mul]; congr 1; omega
  rw [e, ← List.drop_drop, List.drop_left]
  exact h2.2 _ q hq
set_option maxHeartbeats 8000000 in
set_option maxRecDepth 100000 in
theorem Reps_take {α : Type} {R : α → List Value → Prop} {sz : Nat} {ps : List α} {cs : List Value} (h : Reps R sz ps cs) {m : Nat} (hm : m ≤ ps.length) : Reps R sz (ps.take m) (cs.take (m * sz)) := by
 have hl : m * sz ≤ cs.length := by rw [h.1]; exact Nat.mul_le_mul_right _ hm
 refine ⟨by rw [List.length_take, List.length_take, Nat.min_eq_left hl, Nat.min_eq_left hm], fun j q hq => ?_⟩
 rw [List.getElem?_take] at hq
 split at hq
 case isTrue hj =>
  have h1 : j * sz + sz ≤ m * sz := by rw [← Nat.succ_mul]; exact Nat.mul_le_mul_right _ hj
  rw [List.drop_take, List.take_take, Nat.min_eq_left (by omega)]
  exact h.2 j q hq
 case isFalse => cases hq
set_option maxHeartbeats 8000000 in
set_option maxRecDepth 100000 in
theorem Reps_drop {α : Type} {R : α → List Value → Prop} {sz : Nat} {ps : List α} {cs : List Value} (h : Reps R sz ps cs) (m : Nat) : Reps R sz (ps.drop m) (cs.drop (m * sz)) := by
 refine ⟨by rw [List.length_drop, List.length_drop, h.1, Nat.sub_mul], fun j q hq => ?_⟩
 rw [List.getElem?_drop] at hq
 rw [List.drop_drop, ← Nat.add_mul]
 exact h.2 _ q hq
set_option maxHeartbeats 8000000 in
set_option maxRecDepth 100000 in
theorem setCells_nil (w : World) (b o : Nat) : w.setCells b o [] = w := rfl
set_option maxHeartbeats 8000000 in
set_option maxRecDepth 100000 in
theorem drop_append {w : World} {base g c : Nat} {xs : List S24} (hR : Kd.R k24 24 w base (fun _ => True) (.slice (some ⟨g, 0, none⟩) xs.length c) xs) (hb : base ≤ w.heap.size) (i : Nat) (hi : i < xs.length) (hs : xs.length ≤ 2199023255552) :
  ∃ v' w', (Builtin.append_ #[39, 39] 39 #[.slice (some ⟨g, 0, none⟩) i i, .slice (if c = i + 1 then (some ⟨g, 0, none⟩ : Option Addr) else (some (⟨g, 0, none⟩ : Addr)).map (·.add ((i + 1) * 5))) (xs.length - (i + 1)) (c - (i + 1))]).run Try.prog w = .ok v' w' ∧
   Kd.V k24 24 w' base (fun k => base ≤ k) v' (xs.take i ++ xs.drop (i + 1)) ∧ Below w.heap.size w w' := by
 obtain ⟨i0, hi0, hzz⟩ := Option.map_eq_some_iff.1 info24
 simp only [Prod.mk.injEq] at hzz
 obtain ⟨hz0, hz1, hz2⟩ := hzz
 have hR2 := Kd.R_bound hR
 obtain ⟨_, inner, ho, hr⟩ := hR2
 have hsz : k24.sz = 5 := rfl
 rw [hsz] at ho hr
 have hil : inner.length = xs.length * 5 := hr.1
 rcases ho.2 with ⟨h0, h1⟩ | ⟨g', cap, cur, hv, hg, hh, hn, hcap, hcl, htk⟩
 ·exfalso
  injection h0 with a b
  omega
 injection hv with a1 a2 a3
 injection a1 with a1
 injection a1 with a1 _ _
 subst a1
 subst a3
 have hcell : ∀ j u, inner[j]? = some u → w.cell? ⟨g, j, none⟩ = some u := fun j u hj => by
  rw [← htk, List.getElem?_take] at hj
  split at hj
  ·exact (zaial hh j).trans (by rw [← hj]; simp)
  ·cases hj
 have hone : ∀ u ∈ inner, u.oneCell' = true := by
  intro u hu
  obtain ⟨j, hj, rfl⟩ := List.getElem_of_mem hu
  have hq : j / 5 < xs.length := by omega
  have h5 := hr.2 (j / 5) _ (List.getElem?_eq_getElem hq)
  refine k24.K_one (k24.K_of_M h5) _ ?_
  have e : ((inner.drop (j / 5 * 5)).take 5)[j % 5]? = some inner[j] := by
   rw [List.getElem?_take_of_lt (by omega), List.getElem?_drop, show j / 5 * 5 + j % 5 = j by omega, List.getElem?_eq_getElem hj]
  exact List.mem_of_getElem? e
 by_cases hlast : xs.length = i + 1
 ·refine ⟨.slice (some ⟨g, 0, none⟩) i i, w, ?_, ?_, Below.refl _ _⟩
  ·have hrun := run_append_room_cells (P := Try.prog) w 39 39 24 i0 Try.underlying39 hi0 g 0 i i (if c = i + 1 then (⟨g, 0, none⟩ : Addr) else (⟨g, 0, none⟩ : Addr).add ((i + 1) * 5)) 0 (c - (i + 1)) [] (by simp) (by simp) (by simp) (by omega) (by simp) (by simp)
   rw [setCells_nil] at hrun
   rw [show xs.length - (i + 1) = 0 by omega]
   refine Eq.trans ?_ hrun
   congr 5
   split <;> rfl
  ·rw [List.drop_of_length_le (by omega), List.append_nil]
   have hV := Kd.V_at (Kd.R_V (base' := base) (Kd.R_bound hR))
   refine ⟨some ⟨g, 0, none⟩, i, by rw [List.length_take, Nat.min_eq_left (by omega)], by rw [List.length_take]; omega, ?_⟩
   exact Kd.F_take (Kd.F_mono hV.2.2 (fun k hk => hk.2.1)) (by omega)
 ·have hne : ¬ c = i + 1 := by omega
  rw [if_neg hne]
  have htl : (inner.take (i * 5)).length = i * 5 := by rw [List.length_take]; omega
  obtain ⟨v', w', hrun, hown, hgr⟩ := run_append_arg_grows (P := Try.prog) w 39 39 24 i0 (.agg #[.int .i64 0, .bool false, .int .i64 0, .string ByteArray.empty, .slice none 0 0]) 5 64 Try.underlying39 hi0 hz0 hz1 hz2 rfl (by decide) ⟨g, 0, none⟩ i i (inner.take (i * 5)) htl
   (fun j u hj => by
    rw [Addr.add_lit]
    rw [List.getElem?_take] at hj
    split at hj
    ·rw [Nat.zero_add]; exact hcell j u hj
    ·cases hj)
   ((⟨g, 0, none⟩ : Addr).add ((i + 1) * 5)) (xs.length - (i + 1)) (c - (i + 1)) (inner.drop ((i + 1) * 5)) (by rw [List.length_drop]; omega)
   (fun j u hj => by
    rw [List.getElem?_drop] at hj
    rw [add_add, Addr.add_lit, Nat.zero_add]
    exact hcell _ u hj)
   (by omega) (by simp only [maxLen]; omega) (by omega)
  refine ⟨v', w', hrun, ?_, (Below.refl _ _).grown hgr (Nat.le_refl _) (fun k hk => by cases hk)⟩
  have hvb : ∀ k, v'.ownBlock = some k → w.heap.size ≤ k := fun k hk => own_base hown k hk
  have hl2 : i + (xs.length - (i + 1)) = (xs.take i ++ xs.drop (i + 1)).length := by rw [List.length_append, List.length_take, List.length_drop]; omega
  refine Kd.R_V (base := base) (Kd.R_mono (ok := fun k => True ∧ base ≤ k ∧ k < w'.heap.size ∧ ∃ q, q ∈ 24 :: k24.E ∧ ∃ cells, w'.heap[k]? = some (.cells cells q (0, 0))) (Kd.R_bound ⟨fun k hk => trivial, inner.take (i * 5) ++ inner.drop ((i + 1) * 5), ?_, ?_⟩) (fun k hk => hk.2.1))
  ·rw [← hl2]; exact own_weaken hown hb
  ·refine Reps.imp_ (Reps_app (Reps_take hr (by omega)) (Reps_drop hr (i + 1))) (fun p cs hp => ?_)
   refine k24.M_mono (fun k hk => ?_) (Kd.M_grown (k24.M_bound hp) hgr (fun k hk => by simp))
   exact ⟨trivial, fun e => by have := hvb k e.symm; have := hk.2.2.1; omega⟩
set_option maxHeartbeats 8000000 in
set_option maxRecDepth 100000 in
theorem u39 : Try.prog.underlying 39 = some (.slice (Try.prog.elem 39)) := by
 have e : Try.prog.elem 39 = 24 := by simp [Program.elem, Try.underlying39]
 rw [e]; exact Try.underlying39
set_option maxHeartbeats 8000000 in
set_option maxRecDepth 100000 in
theorem size24 (w : World) : (sizeOf (Try.prog.elem 39)).run Try.prog w = .ok 5 w := by
 obtain ⟨i0, hi0, hzz⟩ := Option.map_eq_some_iff.1 info24
 simp only [Prod.mk.injEq] at hzz
 simp [sizeOf, typeInfo, Program.elem, Try.underlying39, hi0, hzz.2.1]
set_option maxHeartbeats 8000000 in
set_option maxRecDepth 100000 in
theorem run_cut3 {f : Operand → Value} {W : World} {g n c i : Nat} (o : Oper) (x y z : Operand) (ho : o.op = .slice 39 x none (some y) (some z)) (hx : f x = .slice (some ⟨g, 0, none⟩) n c) (hy : f y = .int .i64 (i : Int)) (hz : f z = .int .i64 (i : Int)) (hi : i < n) (hc : n ≤ c) :
  (execOp f o).run Try.prog W = .ok (.value (.slice (some ⟨g, 0, none⟩) i i)) W := by
 have h := run_slice_hm (P := Try.prog) W 39 (some ⟨g, 0, none⟩) n c u39 .i64 .i64 (i : Int) (i : Int) (by omega) (by omega) (by omega)
 rw [size24, Result.andThen_ok] at h
 unfold execOp
 simp only [ho, hx, hy, hz, Option.map_some, Option.map_none]
 rw [Sem.run_bind, run_sliceAt_slice (P := Try.prog) W 39 _ _ _ _ u39, h]
 simp only [Result.andThen_ok, Sem.run_pure, sliced]
 congr 3
 split <;> rfl
set_option maxHeartbeats 8000000 in
set_option maxRecDepth 100000 in
theorem run_cutl {f : Operand → Value} {W : World} {g n c i : Nat} (o : Oper) (x y : Operand) (ho : o.op = .slice 39 x (some y) none none) (hx : f x = .slice (some ⟨g, 0, none⟩) n c) (hy : f y = .int .i64 (IntKind.i64.wrap ((i : Int) + 1))) (hi : i < n) (hn : n ≤ 2199023255552) :
  (execOp f o).run Try.prog W = .ok (.value (.slice (if c = i + 1 then (some ⟨g, 0, none⟩ : Option Addr) else (some (⟨g, 0, none⟩ : Addr)).map (·.add ((i + 1) * 5))) (n - (i + 1)) (c - (i + 1)))) W := by
 rw [show IntKind.i64.wrap ((i : Int) + 1) = (i : Int) + 1 from (i64_w _).trans (IntWalk.wrap64_in _ (by omega))] at hy
 have h := run_slice_l (P := Try.prog) W 39 (some ⟨g, 0, none⟩) n c u39 .i64 ((i : Int) + 1) (by omega) (by omega)
 rw [size24, Result.andThen_ok] at h
 unfold execOp
 simp only [ho, hx, hy, Option.map_some, Option.map_none]
 rw [Sem.run_bind, run_sliceAt_slice (P := Try.prog) W 39 _ _ _ _ u39, h]
 simp only [Result.andThen_ok, Sem.run_pure, sliced]
 rfl
set_option maxHeartbeats 8000000 in
set_option maxRecDepth 100000 in
theorem run_app39 {f : Operand → Value} {W W1 : World} {x y : Operand} {a b v : Value} (o : Oper) (ho : (o.op, o.type) = (.call { callee := .builtin .append, args := #[x, y], argTypes := #[39, 39] }, 39)) (hx : f x = a) (hy : f y = b)
  (h : (Builtin.append_ #[39, 39] 39 #[a, b]).run Try.prog W = .ok v W1) : (execOp f o).run Try.prog W = .ok (.value v) W1 := by
 injection ho with h1 h2
 subst hx; subst hy
 unfold execOp
 simp only [h1, h2]
 simp [resolve, invoke, builtin, h]
set_option maxHeartbeats 8000000 in
set_option maxRecDepth 100000 in
theorem own_id {x : S24} {t : Int × Bool × Int × ByteArray × List S72} (h : chain_own.f x.f0 x.f1 x.f2 x.f3 x.f4 = some t) : (⟨t.1, t.2.1, t.2.2.1, t.2.2.2.1, t.2.2.2.2⟩ : S24) = x := by
 unfold chain_own.f at h
 obtain ⟨l, h1, h2⟩ := Option.bind_eq_some_iff.mp h
 unfold api_Piece.f at h1
 split at h1
 ·obtain rfl := Option.some.inj h1
  obtain rfl := Option.some.inj h2
  rfl
 ·cases h1
set_option maxHeartbeats 8000000 in
set_option maxRecDepth 100000 in
theorem copied_go : ∀ (k : Nat) (out l : List S24) (i : Nat) (r : List S24), i ≤ l.length → l.length ≤ 2199023255552 → chain_copied.l0 k out l (l.length : Int) (i : Int) = some r → r = out ++ l.drop i
 | 0, _, _, _, _, _, _, h => by simp [chain_copied.l0] at h
 | k + 1, out, l, i, r, hi, hs, h => by
  unfold chain_copied.l0 at h
  by_cases hlt : i < l.length
  ·rw [if_pos (by omega), if_pos (by omega), if_pos (by omega)] at h
   obtain ⟨t, h1, h2⟩ := Option.bind_eq_some_iff.mp h
   have e := own_id h1
   rw [e] at h2
   split at h2
   case isFalse => cases h2
   rw [IntWalk.wrap64_in _ (by omega)] at h2
   have := copied_go k (out ++ [rd_T24 l i]) l (i + 1) r (by omega) hs h2
   rw [this, List.append_assoc, List.drop_eq_getElem_cons hlt]
   show _ ++ ((rd_T24 l i) :: _) = _
   congr 2
   show l.getD i z24 = _
   rw [List.getD_eq_getElem?_getD, List.getElem?_eq_getElem hlt]
   rfl
  ·rw [if_neg (by omega)] at h
   obtain rfl := Option.some.inj h
   rw [List.drop_of_length_le (by omega), List.append_nil]
set_option maxHeartbeats 8000000 in
set_option maxRecDepth 100000 in
theorem copied_id {k : Nat} {l r : List S24} (hs : l.length ≤ 2199023255552) (h : chain_copied.f k l = some r) : r = l := by
 have := copied_go k [] l 0 r (by omega) hs h
 simpa using this
def chain_Drop.f (k : Nat) (l0 : List S24) (a1 : Int) : Option (List S24 × Int) :=
 (chain_right.f k l0).bind fun r => if r = true then (if atF l0 a1 < 0 then some ([], 4) else (chain_copied.f k l0).bind fun _ => if l0.length ≤ 2199023255552 then some (l0.take (atF l0 a1).toNat ++ l0.drop ((atF l0 a1).toNat + 1), 0) else none) else some ([], 1)
set_option maxHeartbeats 8000000 in
set_option maxRecDepth 100000 in
theorem chain_Drop.mono : ∀ a0 a1 k, LeO (chain_Drop.f k a0 a1) (chain_Drop.f (k + 1) a0 a1) := by
 intro a0 a1 k
 unfold chain_Drop.f
 refine LeO.bind (chain_right.mono _ _) (fun _ => ?_)
 refine LeO.ite (LeO.ite (LeO.refl _) (LeO.bind (chain_copied.mono _ _) (fun _ => LeO.refl _))) (LeO.refl _)
set_option maxHeartbeats 8000000 in
set_option maxRecDepth 100000 in
theorem atF_lt {l : List S24} {id : Int} (h : ¬ atF l id < 0) : ∃ i : Nat, i < l.length ∧ atF l id = (i : Int) := by
 unfold atF at h ⊢
 cases e : l.findIdx? (fun v => v.f0 == id) with
 | none => rw [e] at h; simp at h
 | some i => exact ⟨i, (List.findIdx?_eq_some_iff_getElem.1 e).1, rfl⟩
set_option maxHeartbeats 8000000 in
set_option maxRecDepth 100000 in
theorem chain_Drop.calls (k : Nat) (A0 : Option Addr) (c0 : Nat) (l0 : List S24) (a1 : Int) (r1 : List S24) (r2 : Int) (w : World) (hr0 : Kd.C k24 w A0 l0.length l0) (hc0 : l0.length ≤ c0) (h : chain_Drop.f k l0 a1 = some (r1, r2)) :
  Calls Try.prog 19 #[.slice A0 l0.length c0, .int .i64 a1] w fun e w' => ∃ v0_ : Value, e = .returned (.tuple #[v0_, .int .i64 r2]) ∧ Kd.V k24 24 w' w.heap.size (fun k_ => (w.heap.size ≤ k_)) v0_ r1 ∧ Below w.heap.size w w' := by
 unfold chain_Drop.f at h
 obtain ⟨t, h1, h⟩ := Option.bind_eq_some_iff.mp h
 have HR := zaiaq hr0
 have HC := zaiaq hc0
 have H1 := zaiaq h1
 clear hr0 hc0 h1
 cases t with
 | false =>
  rw [if_neg (by simp)] at h
  simp only [Option.some.injEq, Prod.mk.injEq] at h
  obtain ⟨rfl, rfl⟩ := h
  go_enter Try.func19, Try.ntmps19
  go_wp2_with (fail)
  refine (chain_right.calls k A0 c0 l0 false w HR.out HC.out H1.out).mono ?_
  rintro e w1 ⟨rfl, hb⟩
  have HB1 := zaiaq hb
  clear hb
  go_wp2
  go_ret2
  exact ⟨_, rfl, Kd.V_nil _ _ _ _ _, HB1.out⟩
 | true =>
  rw [if_pos rfl] at h
  by_cases hat : atF l0 a1 < 0
  ·rw [if_pos hat] at h
   simp only [Option.some.injEq, Prod.mk.injEq] at h
   obtain ⟨rfl, rfl⟩ := h
   go_enter Try.func19, Try.ntmps19
   go_wp2_with (fail)
   refine (chain_right.calls k A0 c0 l0 true w HR.out HC.out H1.out).mono ?_
   rintro e w1 ⟨rfl, hb⟩
   have HB1 := zaiaq hb
   clear hb
   go_wp2_with (fail)
   refine (chain_at.calls A0 c0 l0 a1 _ w1 (Kd.C_below HR.out HB1.out) HC.out rfl).mono ?_
   rintro e w2 ⟨rfl, hb⟩
   have HB2 := zaiaq (below_step HB1.out hb)
   clear hb
   go_wp2
   go_ret2
   exact ⟨_, rfl, Kd.V_nil _ _ _ _ _, HB2.out⟩
  ·rw [if_neg hat] at h
   obtain ⟨t2, h2, h⟩ := Option.bind_eq_some_iff.mp h
   split at h
   case isFalse => cases h
   rename_i hsz
   obtain ⟨i, hi, hai⟩ := atF_lt hat
   rw [hai] at h hat
   simp only [Int.toNat_natCast, Option.some.injEq, Prod.mk.injEq] at h
   obtain ⟨rfl, rfl⟩ := h
   obtain rfl := copied_id hsz h2
   have HI := zaiaq hi
   have HAI := zaiaq hai
   have H2 := zaiaq h2
   have HSZ := zaiaq hsz
   clear hi hai h2 hsz hat
   have hneg : ((i : Int) < 0) = False := eq_false (by omega)
   go_enter Try.func19, Try.ntmps19
   go_wp2_with (fail)
   refine (chain_right.calls k A0 c0 t2 true w HR.out HC.out H1.out).mono ?_
   rintro e w1 ⟨rfl, hb⟩
   have HB1 := zaiaq hb
   clear hb
   go_wp2_with (fail)
   refine (chain_at.calls A0 c0 t2 a1 (i : Int) w1 (Kd.C_below HR.out HB1.out) HC.out (by unfold chain_at.f; rw [HAI.out])).mono ?_
   rintro e w2 ⟨rfl, hb⟩
   have HB2 := zaiaq (below_step HB1.out hb)
   clear hb
   go_wp2_with (fail)
   refine (chain_copied.calls k A0 c0 t2 t2 w2 (Kd.C_below HR.out HB2.out) HC.out H2.out).mono ?_
   rintro e w3 ⟨v, rfl, hS, hb⟩
   obtain ⟨A, c, rfl⟩ := Kd.S_slice hS
   have hne : A ≠ none := by
    rintro rfl
    obtain ⟨_, e, _⟩ := (Kd.R_reads' (Kd.S_R hS)).2.2.2.2 (by have := HI.out; omega)
    cases e
   have hRr := Kd.S_R hS
   obtain ⟨g, rfl⟩ : ∃ g, A = some ⟨g, 0, none⟩ := by
    obtain ⟨_, inner, ho, _⟩ := hRr
    rcases ho.2 with ⟨h0, h1⟩ | ⟨g', cap, cur, hv, _⟩
    ·injection h0 with a b; exact absurd a hne
    ·injection hv with a1 a2 a3; exact ⟨g', a1⟩
   have HLC : Aside0 (t2.length ≤ c) := ⟨(Kd.R_reads' hRr).2.1⟩
   have RS := zaiaq (Kd.R_lower hRr HB2.out.size)
   have HB3 := zaiaq (below_step HB2.out hb)
   clear hb hS hRr hne HR HC H1 H2 HAI HB1 HB2
   go_wp2_with (fail)
   refine start_ (n := 11) (S := fun _ => True) (ds := []) zaisq0 (by kernel_rfl) rfl rfl trivial (fun hHeld => ?_)
   refine pure_ (i := 0) (N := some 18) (v := ?_) (a' := ?_) zaisq1 rfl rfl (by kernel_rfl) (fun _ _ _ h => h) (Or.inl ⟨by rfl, ?_⟩) ?_ ?_
   rotate_left
   ·intro w'
    go_simp
    with_reducible rfl
   rotate_left
   ·simp only [Act.put, zaiaa, zaiab, zaiac]
    rfl
   refine pure_ (i := 1) (N := some 19) (v := ?_) (a' := ?_) zaisq2 rfl rfl (by kernel_rfl) (fun _ _ _ h => h) (Or.inl ⟨by rfl, ?_⟩) ?_ ?_
   rotate_left
   ·intro w'
    go_simp
    with_reducible rfl
   rotate_left
   ·simp only [Act.put, zaiaa, zaiab, zaiac]
    rfl
   refine pure_ (i := 2) (N := some 20) (v := ?_) (a' := ?_) zaisq3 rfl rfl (by kernel_rfl) (fun _ _ _ h => h) (Or.inl ⟨by rfl, ?_⟩) ?_ ?_
   rotate_left
   ·intro w'
    go_simp
    with_reducible rfl
   rotate_left
   ·simp only [Act.put, zaiaa, zaiab, zaiac]
    rfl
   refine take_ (i := 3) (N := some 21) (v := ?_) (a' := ?_) zaisq4 rfl rfl (by kernel_rfl) (fun _ _ _ h => h) (Or.inl ⟨by rfl, ?_⟩) (by first | exact hHeld | assumption) ?_ ?_
   rotate_left
   ·intro w' _
    refine run_cut3 (g := g) (n := t2.length) (c := c) (i := i) _ (.tmp 18) (.tmp 19) (.tmp 20) ?h1 ?h2 ?h3 ?h4 HI.out HLC.out
    case h1 => rfl
    case h2 => rfl
    case h3 => rfl
    case h4 => rfl
   rotate_left
   ·simp only [Act.put, zaiaa, zaiab, zaiac]
    rfl
   refine pure_ (i := 4) (N := some 22) (v := ?_) (a' := ?_) zaisq5 rfl rfl (by kernel_rfl) (fun _ _ _ h => h) (Or.inl ⟨by rfl, ?_⟩) ?_ ?_
   rotate_left
   ·intro w'
    go_simp
    with_reducible rfl
   rotate_left
   ·simp only [Act.put, zaiaa, zaiab, zaiac]
    rfl
   refine pure_ (i := 5) (N := some 23) (v := ?_) (a' := ?_) zaisq6 rfl rfl (by kernel_rfl) (fun _ _ _ h => h) (Or.inl ⟨by rfl, ?_⟩) ?_ ?_
   rotate_left
   ·intro w'
    go_simp
    with_reducible rfl
   rotate_left
   ·simp only [Act.put, zaiaa, zaiab, zaiac]
    rfl
   refine pure_ (i := 6) (N := some 24) (v := ?_) (a' := ?_) zaisq7 rfl rfl (by kernel_rfl) (fun _ _ _ h => h) (Or.inl ⟨by rfl, ?_⟩) ?_ ?_
   rotate_left
   ·intro w'
    go_simp
    with_reducible rfl
   rotate_left
   ·simp only [Act.put, zaiaa, zaiab, zaiac]
    rfl
   refine take_ (i := 7) (N := some 25) (v := ?_) (a' := ?_) zaisq8 rfl rfl (by kernel_rfl) (fun _ _ _ h => h) (Or.inl ⟨by rfl, ?_⟩) (by first | exact hHeld | assumption) ?_ ?_
   rotate_left
   ·intro w' _
    refine run_cutl (g := g) (n := t2.length) (c := c) (i := i) _ (.tmp 22) (.tmp 24) ?h1 ?h2 ?h3 HI.out HSZ.out
    case h1 => rfl
    case h2 => rfl
    case h3 => rfl
   rotate_left
   ·simp only [Act.put, zaiaa, zaiab, zaiac]
    rfl
   refine one_ (i := 8) (N := some 26) zaisq9 rfl rfl (by kernel_rfl) (by decide) (fun K hK => ?_)
   obtain ⟨v1, w7, hrun, hV, hB7⟩ := drop_append (Kd.R_drew RS.out) (Nat.le_trans HB3.out.size (by simp)) i HI.out HSZ.out
   refine value_ (v := v1) (w1 := w7) (by rfl) rfl (by refine run_app39 _ rfl ?_ ?_ hrun <;> rfl) ?_
   have V7 := zaiaq hV
   have B7 := zaiaq (below_step (zaiaj HB3.out) hB7)
   clear hV hB7 hrun
   refine hK.out _ _ trivial (fun hHeld => ?_)
   clear hK K
   refine norm_ (a' := ?_) ?_ ?_
   rotate_left
   ·show Act.put _ (some 26) _ = _
    simp only [Act.put, zaiaa, zaiab, zaiac]
    rfl
   refine pure_ (i := 9) (N := some 4) (v := ?_) (a' := ?_) zaisq10 rfl rfl (by kernel_rfl) (fun _ _ _ h => h) (Or.inl ⟨by rfl, ?_⟩) ?_ ?_
   rotate_left
   ·intro w'
    go_simp
    with_reducible rfl
   rotate_left
   ·simp only [Act.put, zaiaa, zaiab, zaiac]
    rfl
   refine pure_ (i := 10) (N := some 5) (v := ?_) (a' := ?_) zaisq11 rfl rfl (by kernel_rfl) (fun _ _ _ h => h) (Or.inl ⟨by rfl, ?_⟩) ?_ ?_
   rotate_left
   ·intro w'
    go_simp
    with_reducible rfl
   rotate_left
   ·simp only [Act.put, zaiaa, zaiab, zaiac]
    rfl
   refine done_ (by kernel_rfl) ?_
   go_wp2
   all_goals go_ret2
   all_goals exact ⟨_, rfl, V7.out, B7.out⟩

/-! ### chain_Latest: function 24 -/
def chain_Latest.f (k : Nat) (l0 : List (S24)) : Option (Int × Bool × Int × ByteArray × (List (S72)) × Int) := (chain_right.f k l0).bind fun t164 => (if t164 = true then (if (l0.length : Int) = 0 then (some (0, false, 0, (⟨#[]⟩ : ByteArray), ([] : List (S72)), 4)) else (if 0 < (l0.length : Int) then (if (rd_T24 l0 0).f1 = true then (some (0, false, 0, (⟨#[]⟩ : ByteArray), ([] : List (S72)), 130)) else ((chain_own.f ((rd_T24 l0 0).f0) ((rd_T24 l0 0).f1) ((rd_T24 l0 0).f2) ((rd_T24 l0 0).f3) ((rd_T24 l0 0).f4)).bind fun bt167 => (some (bt167.1, bt167.2.1, bt167.2.2.1, bt167.2.2.2.1, bt167.2.2.2.2, 0)))) else (none))) else (some (0, false, 0, (⟨#[]⟩ : ByteArray), ([] : List (S72)), 1)))
theorem chain_Latest.mono : ∀ a0 k, LeO (chain_Latest.f k a0) (chain_Latest.f (k + 1) a0) := by
 intro a0 k
 unfold chain_Latest.f
 repeat' first
   | (with_reducible exact chain_right.mono _ _)
   | (with_reducible exact LeO.refl _)
   | (with_reducible exact LeO.none _)
   | (with_reducible refine LeO.ite ?_ ?_)
   | (with_reducible refine LeO.bind ?_ (fun _ => ?_))
   | exact chain_right.mono _ _
   | exact LeO.none _
   | refine LeO.ite ?_ ?_
   | refine LeO.bind ?_ (fun _ => ?_)
set_option maxHeartbeats 8000000 in
set_option maxRecDepth 100000 in
theorem chain_Latest.calls (k : Nat) (A0 : Option Addr) (c0 : Nat) (l0 : List (S24)) (r1 : Int) (r2 : Bool) (r3 : Int) (r4 : ByteArray) (r5 : List (S72)) (r6 : Int) (w : World) (hr0 : Kd.C k24 w A0 l0.length l0) (hc0 : l0.length ≤ c0) (h : chain_Latest.f k l0 = some (r1, r2, r3, r4, r5, r6)) :
  Calls Try.prog 24 #[.slice A0 l0.length c0] w fun e w' => ∃ v4_ : Value, e = .returned (.tuple #[.agg #[.int .i64 r1, .bool r2, .int .i64 r3, .string r4, v4_], .int .i64 r6]) ∧ Kd.R k72 72 w' w.heap.size (fun _ => True) v4_ r5 ∧ Below w.heap.size w w' := by
 have hu24 := Try.underlying24
 have HR0 := zaiaq hr0
 have HC0 := zaiaq hc0
 clear hr0 hc0
 have HB := zaiaq (Below.refl w.heap.size w)
 have H : ((chain_right.f k l0).bind fun t164 => (if t164 = true then (if (l0.length : Int) = 0 then (some (0, false, 0, (⟨#[]⟩ : ByteArray), ([] : List (S72)), 4)) else (if 0 < (l0.length : Int) then (if (rd_T24 l0 0).f1 = true then (some (0, false, 0, (⟨#[]⟩ : ByteArray), ([] : List (S72)), 130)) else ((chain_own.f ((rd_T24 l0 0).f0) ((rd_T24 l0 0).f1) ((rd_T24 l0 0).f2) ((rd_T24 l0 0).f3) ((rd_T24 l0 0).f4)).bind fun bt167 => (some (bt167.1, bt167.2.1, bt167.2.2.1, bt167.2.2.2.1, bt167.2.2.2.2, 0)))) else (none))) else (some (0, false, 0, (⟨#[]⟩ : ByteArray), ([] : List (S72)), 1)))) = some (r1, r2, r3, r4, r5, r6) := h
 clear h
 replace H := Option.bind_eq_some_iff.mp H
 obtain ⟨t164, A20, H⟩ := H
 replace H : (if t164 = true then (if (l0.length : Int) = 0 then (some (0, false, 0, (⟨#[]⟩ : ByteArray), ([] : List (S72)), 4)) else (if 0 < (l0.length : Int) then (if (rd_T24 l0 0).f1 = true then (some (0, false, 0, (⟨#[]⟩ : ByteArray), ([] : List (S72)), 130)) else ((chain_own.f ((rd_T24 l0 0).f0) ((rd_T24 l0 0).f1) ((rd_T24 l0 0).f2) ((rd_T24 l0 0).f3) ((rd_T24 l0 0).f4)).bind fun bt167 => (some (bt167.1, bt167.2.1, bt167.2.2.1, bt167.2.2.2.1, bt167.2.2.2.2, 0)))) else (none))) else (some (0, false, 0, (⟨#[]⟩ : ByteArray), ([] : List (S72)), 1))) = some (r1, r2, r3, r4, r5, r6) := H
 have A2 := zaiaq A20
 clear A20
 by_cases c3 : t164 = true
 ·subst c3
  have H1 : (if (l0.length : Int) = 0 then (some (0, false, 0, (⟨#[]⟩ : ByteArray), ([] : List (S72)), 4)) else (if 0 < (l0.length : Int) then (if (rd_T24 l0 0).f1 = true then (some (0, false, 0, (⟨#[]⟩ : ByteArray), ([] : List (S72)), 130)) else ((chain_own.f ((rd_T24 l0 0).f0) ((rd_T24 l0 0).f1) ((rd_T24 l0 0).f2) ((rd_T24 l0 0).f3) ((rd_T24 l0 0).f4)).bind fun bt167 => (some (bt167.1, bt167.2.1, bt167.2.2.1, bt167.2.2.2.1, bt167.2.2.2.2, 0)))) else (none))) = some (r1, r2, r3, r4, r5, r6) := by rw [if_pos rfl] at H; exact H
  clear H
  have H := H1
  clear H1
  by_cases c4 : (l0.length : Int) = 0
  ·rw [if_pos c4] at H
   have c4b0 : ((l0.length : Int) == 0) = true := beq_iff_eq.mpr c4
   have c4b1 : ((l0.length : Int) != 0) = false := bne_eq_false_iff_eq.mpr c4
   clear c4
   simp only [Option.some.injEq, Prod.mk.injEq] at H
   obtain ⟨rfl, rfl, rfl, rfl, rfl, rfl⟩ := H
   go_enter Try.func24, Try.ntmps24
   go_wp2_with (first | ((with_reducible refine gate_dst (N := 2) rfl ?_); refine box_event ?hg (N := 2) ?hd (cs := #[.int .i64 0, .bool false, .int .i64 0, .string (⟨#[]⟩ : ByteArray), .slice none 0 0]) (t := 24) ?hr ?_; (case hd => rfl); (case hg => rfl); (case hr => first | (go_simp; done) | (go_simp; rfl)); intro zaiau hg w5 hbox hb; have n0_ := zaiaq (below_step (zh0 HB) hb); have n1_ := zaiaq (hbox); have n2_ := zns hg (zh0 HB); have n3_ := zns hg (zh0 HB); clear HB; have HB := n0_; have zaiat := n1_; have zaibg := n2_; have zaibc := n3_; clear n0_ n1_ n2_ n3_; clear hb hbox hg) | ((with_reducible refine gate_callee (f := 37) rfl ?_); refine goesL_ (some 6) rfl rfl Try.func37 (by kernel_rfl) rfl #[.slice A0 l0.length c0] rfl (by (try simp only [zaian, zaiao, zaiap]); first | done | rfl) ?_; (with_reducible refine (chain_right.calls k _ _ l0 true _ ?side1 ?side2 A2.out).mono ?_); (case side1 => repeat (first | exact (Kd.C_below HR0.out HB.out) | (with_reducible refine Kd.C_alloc ?_ _) | (with_reducible refine Kd.C_drewN ?_ _) | (with_reducible refine Kd.C_drew ?_))); (case side2 => exact HC0.out); rintro e w6 ⟨rfl, hb⟩; refine ⟨_, rfl, ?_⟩; have n0_ := zbb zaiat hb; have n1_ := zaiaq (below_step (zh1 HB zaibc) hb); clear zaiat; clear HB; have zaiat := n0_; have HB := n1_; clear n0_ n1_; (try clear hb); (try clear hk); (try clear hi); have hcz7_0 : w6.cell? ⟨zaiau, 0, none⟩ = some (.int .i64 0) := (zaial zaiat.out 0).trans rfl; have hcz7_1 : w6.cell? ⟨zaiau, 1, none⟩ = some (.bool false) := (zaial zaiat.out 1).trans rfl; have hcz7_2 : w6.cell? ⟨zaiau, 2, none⟩ = some (.int .i64 0) := (zaial zaiat.out 2).trans rfl; have hcz7_3 : w6.cell? ⟨zaiau, 3, none⟩ = some (.string (⟨#[]⟩ : ByteArray)) := (zaial zaiat.out 3).trans rfl; have hcz7_4 : w6.cell? ⟨zaiau, 4, none⟩ = some (.slice none 0 0) := (zaial zaiat.out 4).trans rfl; have hfz7_0 := zaiam zaiat.out 0; have hfz7_1 := zaiam zaiat.out 1; have hfz7_2 := zaiam zaiat.out 2; have hfz7_3 := zaiam zaiat.out 3; have hfz7_4 := zaiam zaiat.out 4))
   refine bodyPost_ret (results_ct rfl _ _ zaiau 24 #[.int .i64 0, .bool false, .int .i64 0, .string (⟨#[]⟩ : ByteArray), .slice none 0 0] (0, 0) _ rfl (by (with_reducible repeat (first | refine zaiae ?_ _ | refine zaiag ?_ | refine zaiaf ?_ _)); refine blk_put (cs := #[.int .i64 0, .bool false, .int .i64 0, .string (⟨#[]⟩ : ByteArray), .slice none 0 0]) ?_ 4 _ rfl; (with_reducible repeat (first | refine zaiae ?_ _ | refine zaiag ?_ | refine zaiaf ?_ _)); refine blk_put (cs := #[.int .i64 0, .bool false, .int .i64 0, .string (⟨#[]⟩ : ByteArray), .slice none 0 0]) ?_ 3 _ rfl; (with_reducible repeat (first | refine zaiae ?_ _ | refine zaiag ?_ | refine zaiaf ?_ _)); refine blk_put (cs := #[.int .i64 0, .bool false, .int .i64 0, .string (⟨#[]⟩ : ByteArray), .slice none 0 0]) ?_ 2 _ rfl; (with_reducible repeat (first | refine zaiae ?_ _ | refine zaiag ?_ | refine zaiaf ?_ _)); refine blk_put (cs := #[.int .i64 0, .bool false, .int .i64 0, .string (⟨#[]⟩ : ByteArray), .slice none 0 0]) ?_ 1 _ rfl; (with_reducible repeat (first | refine zaiae ?_ _ | refine zaiag ?_ | refine zaiaf ?_ _)); refine blk_put (cs := #[.int .i64 0, .bool false, .int .i64 0, .string (⟨#[]⟩ : ByteArray), .slice none 0 0]) ?_ 0 _ rfl; exact zbk zaiat) Try.underlying24 rfl (by kernel_rfl)) rfl ?_
   exact ⟨_, by first | rfl | (simp [errW_none, errW_some] <;> rfl) | (simp [*, errW_none, errW_some] <;> rfl), by first | exact Kd.R_nil _ _ _ _ _ | exact Kd.N_nil _ _ _ _ _ | exact Kd.V_nil _ _ _ _ _ | exact Kd.Q_nil _ _ _ _ _ | exact Kd.S_nil _ _ _ _ _, zh1 HB zaibc⟩
  ·rw [if_neg c4] at H
   have c4b0 : ((l0.length : Int) == 0) = false := beq_eq_false_iff_ne.mpr c4
   have c4b1 : ((l0.length : Int) != 0) = true := bne_iff_ne.mpr c4
   have c4b2 : ¬ (l0 = []) := fun h_ => c4 (by rw [h_]; rfl)
   by_cases c8 : 0 < (l0.length : Int)
   ·rw [if_pos c8] at H
    have c8b0 : decide (0 < (l0.length : Int)) = true := decide_eq_true c8
    have c8b1 : decide (0 < l0.length) = true := decide_eq_true (by omega)
    clear c8
    obtain ⟨bq9, hbq9⟩ : ∃ b_ : Bool, b_ = ((rd_T24 l0 0).f1) := ⟨_, rfl⟩
    replace H : (if bq9 = true then (some (0, false, 0, (⟨#[]⟩ : ByteArray), ([] : List (S72)), 130)) else ((chain_own.f ((rd_T24 l0 0).f0) (bq9) ((rd_T24 l0 0).f2) ((rd_T24 l0 0).f3) ((rd_T24 l0 0).f4)).bind fun bt167 => (some (bt167.1, bt167.2.1, bt167.2.2.1, bt167.2.2.2.1, bt167.2.2.2.2, 0)))) = some (r1, r2, r3, r4, r5, r6) := by rw [← hbq9] at H; exact H
    have Nbq9 := zaiaq hbq9
    clear hbq9
    by_cases c10 : bq9 = true
    ·subst c10
     have H1 : (some (0, false, 0, (⟨#[]⟩ : ByteArray), ([] : List (S72)), 130)) = some (r1, r2, r3, r4, r5, r6) := by rw [if_pos rfl] at H; exact H
     clear H
     have H := H1
     clear H1
     simp only [Option.some.injEq, Prod.mk.injEq] at H
     obtain ⟨rfl, rfl, rfl, rfl, rfl, rfl⟩ := H
     go_enter Try.func24, Try.ntmps24
     go_wp2_with (first | ((with_reducible refine gate_dst (N := 2) rfl ?_); refine box_event ?hg (N := 2) ?hd (cs := #[.int .i64 0, .bool false, .int .i64 0, .string (⟨#[]⟩ : ByteArray), .slice none 0 0]) (t := 24) ?hr ?_; (case hd => rfl); (case hg => rfl); (case hr => first | (go_simp; done) | (go_simp; rfl)); intro zaiau hg w11 hbox hb; have n0_ := zaiaq (below_step (zh0 HB) hb); have n1_ := zaiaq (hbox); have n2_ := zns hg (zh0 HB); have n3_ := zns hg (zh0 HB); clear HB; have HB := n0_; have zaiat := n1_; have zaibg := n2_; have zaibc := n3_; clear n0_ n1_ n2_ n3_; clear hb hbox hg) | ((with_reducible refine gate_callee (f := 37) rfl ?_); refine goesL_ (some 6) rfl rfl Try.func37 (by kernel_rfl) rfl #[.slice A0 l0.length c0] rfl (by (try simp only [zaian, zaiao, zaiap]); first | done | rfl) ?_; (with_reducible refine (chain_right.calls k _ _ l0 true _ ?side1 ?side2 A2.out).mono ?_); (case side1 => repeat (first | exact (Kd.C_below HR0.out HB.out) | (with_reducible refine Kd.C_alloc ?_ _) | (with_reducible refine Kd.C_drewN ?_ _) | (with_reducible refine Kd.C_drew ?_))); (case side2 => exact HC0.out); rintro e w12 ⟨rfl, hb⟩; refine ⟨_, rfl, ?_⟩; have n0_ := zbb zaiat hb; have n1_ := zaiaq (below_step (zh1 HB zaibc) hb); clear zaiat; clear HB; have zaiat := n0_; have HB := n1_; clear n0_ n1_; (try clear hb); (try clear hk); (try clear hi); have p165 : 0 ≤ (0 : Int) := (by omega); have q165 : 0 < (l0.length : Int) := of_decide_eq_true (by first | (with_reducible assumption) | assumption); obtain ⟨ad165, A165_4, c165_4, e165, hx165_0, hx165_1, hx165_2, hx165_3, hx165_4, hl165_4, hi165_4⟩ := at_T24 HR0.out 0 p165 q165; (try rw [← Nbq9.out] at hx165_1); cases e165; have qi165 : (0 < l0.length) = True := eq_true (by omega); (try rw [show ((0 : Int)).toNat = 0 from rfl] at hx165_0); (try rw [show 0 * 5 = 0 from rfl] at hx165_0); (try rw [Addr.add_zero'] at hx165_0); (try rw [show ((0 : Int)).toNat = 0 from rfl] at hx165_1); (try rw [show 0 * 5 = 0 from rfl] at hx165_1); (try rw [Addr.add_zero'] at hx165_1); (try rw [show ((0 : Int)).toNat = 0 from rfl] at hx165_2); (try rw [show 0 * 5 = 0 from rfl] at hx165_2); (try rw [Addr.add_zero'] at hx165_2); (try rw [show ((0 : Int)).toNat = 0 from rfl] at hx165_3); (try rw [show 0 * 5 = 0 from rfl] at hx165_3); (try rw [Addr.add_zero'] at hx165_3); (try rw [show ((0 : Int)).toNat = 0 from rfl] at hx165_4); (try rw [show 0 * 5 = 0 from rfl] at hx165_4); (try rw [Addr.add_zero'] at hx165_4); replace hx165_0 := (HB.out.cell (zaiad w _ hx165_0)).trans hx165_0; replace hx165_1 := (HB.out.cell (zaiad w _ hx165_1)).trans hx165_1; replace hx165_2 := (HB.out.cell (zaiad w _ hx165_2)).trans hx165_2; replace hx165_3 := (HB.out.cell (zaiad w _ hx165_3)).trans hx165_3; replace hx165_4 := (HB.out.cell (zaiad w _ hx165_4)).trans hx165_4; have HR165_4 := zaiaq hi165_4; have HC165_4 := zaiaq hl165_4; clear hi165_4 hl165_4; replace p165 := eq_true p165; replace q165 := eq_true q165; have hcz13_0 : w12.cell? ⟨zaiau, 0, none⟩ = some (.int .i64 0) := (zaial zaiat.out 0).trans rfl; have hcz13_1 : w12.cell? ⟨zaiau, 1, none⟩ = some (.bool false) := (zaial zaiat.out 1).trans rfl; have hcz13_2 : w12.cell? ⟨zaiau, 2, none⟩ = some (.int .i64 0) := (zaial zaiat.out 2).trans rfl; have hcz13_3 : w12.cell? ⟨zaiau, 3, none⟩ = some (.string (⟨#[]⟩ : ByteArray)) := (zaial zaiat.out 3).trans rfl; have hcz13_4 : w12.cell? ⟨zaiau, 4, none⟩ = some (.slice none 0 0) := (zaial zaiat.out 4).trans rfl; have hfz13_0 := zaiam zaiat.out 0; have hfz13_1 := zaiam zaiat.out 1; have hfz13_2 := zaiam zaiat.out 2; have hfz13_3 := zaiam zaiat.out 3; have hfz13_4 := zaiam zaiat.out 4))
     refine bodyPost_ret (results_ct rfl _ _ zaiau 24 #[.int .i64 0, .bool false, .int .i64 0, .string (⟨#[]⟩ : ByteArray), .slice none 0 0] (0, 0) _ rfl (by (with_reducible repeat (first | refine zaiae ?_ _ | refine zaiag ?_ | refine zaiaf ?_ _)); refine blk_put (cs := #[.int .i64 0, .bool false, .int .i64 0, .string (⟨#[]⟩ : ByteArray), .slice none 0 0]) ?_ 4 _ rfl; (with_reducible repeat (first | refine zaiae ?_ _ | refine zaiag ?_ | refine zaiaf ?_ _)); refine blk_put (cs := #[.int .i64 0, .bool false, .int .i64 0, .string (⟨#[]⟩ : ByteArray), .slice none 0 0]) ?_ 3 _ rfl; (with_reducible repeat (first | refine zaiae ?_ _ | refine zaiag ?_ | refine zaiaf ?_ _)); refine blk_put (cs := #[.int .i64 0, .bool false, .int .i64 0, .string (⟨#[]⟩ : ByteArray), .slice none 0 0]) ?_ 2 _ rfl; (with_reducible repeat (first | refine zaiae ?_ _ | refine zaiag ?_ | refine zaiaf ?_ _)); refine blk_put (cs := #[.int .i64 0, .bool false, .int .i64 0, .string (⟨#[]⟩ : ByteArray), .slice none 0 0]) ?_ 1 _ rfl; (with_reducible repeat (first | refine zaiae ?_ _ | refine zaiag ?_ | refine zaiaf ?_ _)); refine blk_put (cs := #[.int .i64 0, .bool false, .int .i64 0, .string (⟨#[]⟩ : ByteArray), .slice none 0 0]) ?_ 0 _ rfl; exact zbk zaiat) Try.underlying24 rfl (by kernel_rfl)) rfl ?_
     exact ⟨_, by first | rfl | (simp [errW_none, errW_some] <;> rfl) | (simp [*, errW_none, errW_some] <;> rfl), by first | exact Kd.R_nil _ _ _ _ _ | exact Kd.N_nil _ _ _ _ _ | exact Kd.V_nil _ _ _ _ _ | exact Kd.Q_nil _ _ _ _ _ | exact Kd.S_nil _ _ _ _ _, zh1 HB zaibc⟩
    ·replace c10 := Bool.eq_false_iff.mpr c10
     subst c10
     have H1 : ((chain_own.f ((rd_T24 l0 0).f0) (false) ((rd_T24 l0 0).f2) ((rd_T24 l0 0).f3) ((rd_T24 l0 0).f4)).bind fun bt167 => (some (bt167.1, bt167.2.1, bt167.2.2.1, bt167.2.2.2.1, bt167.2.2.2.2, 0))) = some (r1, r2, r3, r4, r5, r6) := by rw [if_neg (show ¬ (false = true) by decide)] at H; exact H
     clear H
     have H := H1
     clear H1
     replace H := Option.bind_eq_some_iff.mp H
     obtain ⟨⟨t167, t168, t169, t170, t171⟩, A140, H⟩ := H
     replace H : (some (t167, t168, t169, t170, t171, 0)) = some (r1, r2, r3, r4, r5, r6) := H
     have A14 := zaiaq A140
     clear A140
     simp only [Option.some.injEq, Prod.mk.injEq] at H
     obtain ⟨rfl, rfl, rfl, rfl, rfl, rfl⟩ := H
     go_enter Try.func24, Try.ntmps24
     go_wp2_with (first | ((with_reducible refine gate_dst (N := 2) rfl ?_); refine box_event ?hg (N := 2) ?hd (cs := #[.int .i64 0, .bool false, .int .i64 0, .string (⟨#[]⟩ : ByteArray), .slice none 0 0]) (t := 24) ?hr ?_; (case hd => rfl); (case hg => rfl); (case hr => first | (go_simp; done) | (go_simp; rfl)); intro zaiau hg w15 hbox hb; have n0_ := zaiaq (below_step (zh0 HB) hb); have n1_ := zaiaq (hbox); have n2_ := zns hg (zh0 HB); have n3_ := zns hg (zh0 HB); clear HB; have HB := n0_; have zaiat := n1_; have zaibg := n2_; have zaibc := n3_; clear n0_ n1_ n2_ n3_; clear hb hbox hg) | ((with_reducible refine gate_callee (f := 37) rfl ?_); refine goesL_ (some 6) rfl rfl Try.func37 (by kernel_rfl) rfl #[.slice A0 l0.length c0] rfl (by (try simp only [zaian, zaiao, zaiap]); first | done | rfl) ?_; (with_reducible refine (chain_right.calls k _ _ l0 true _ ?side1 ?side2 A2.out).mono ?_); (case side1 => repeat (first | exact (Kd.C_below HR0.out HB.out) | (with_reducible refine Kd.C_alloc ?_ _) | (with_reducible refine Kd.C_drewN ?_ _) | (with_reducible refine Kd.C_drew ?_))); (case side2 => exact HC0.out); rintro e w16 ⟨rfl, hb⟩; refine ⟨_, rfl, ?_⟩; have n0_ := zbb zaiat hb; have n1_ := zaiaq (below_step (zh1 HB zaibc) hb); clear zaiat; clear HB; have zaiat := n0_; have HB := n1_; clear n0_ n1_; (try clear hb); (try clear hk); (try clear hi); have p165 : 0 ≤ (0 : Int) := (by omega); have q165 : 0 < (l0.length : Int) := of_decide_eq_true (by first | (with_reducible assumption) | assumption); obtain ⟨ad165, A165_4, c165_4, e165, hx165_0, hx165_1, hx165_2, hx165_3, hx165_4, hl165_4, hi165_4⟩ := at_T24 HR0.out 0 p165 q165; (try rw [← Nbq9.out] at hx165_1); cases e165; have qi165 : (0 < l0.length) = True := eq_true (by omega); (try rw [show ((0 : Int)).toNat = 0 from rfl] at hx165_0); (try rw [show 0 * 5 = 0 from rfl] at hx165_0); (try rw [Addr.add_zero'] at hx165_0); (try rw [show ((0 : Int)).toNat = 0 from rfl] at hx165_1); (try rw [show 0 * 5 = 0 from rfl] at hx165_1); (try rw [Addr.add_zero'] at hx165_1); (try rw [show ((0 : Int)).toNat = 0 from rfl] at hx165_2); (try rw [show 0 * 5 = 0 from rfl] at hx165_2); (try rw [Addr.add_zero'] at hx165_2); (try rw [show ((0 : Int)).toNat = 0 from rfl] at hx165_3); (try rw [show 0 * 5 = 0 from rfl] at hx165_3); (try rw [Addr.add_zero'] at hx165_3); (try rw [show ((0 : Int)).toNat = 0 from rfl] at hx165_4); (try rw [show 0 * 5 = 0 from rfl] at hx165_4); (try rw [Addr.add_zero'] at hx165_4); replace hx165_0 := (HB.out.cell (zaiad w _ hx165_0)).trans hx165_0; replace hx165_1 := (HB.out.cell (zaiad w _ hx165_1)).trans hx165_1; replace hx165_2 := (HB.out.cell (zaiad w _ hx165_2)).trans hx165_2; replace hx165_3 := (HB.out.cell (zaiad w _ hx165_3)).trans hx165_3; replace hx165_4 := (HB.out.cell (zaiad w _ hx165_4)).trans hx165_4; have HR165_4 := zaiaq hi165_4; have HC165_4 := zaiaq hl165_4; clear hi165_4 hl165_4; replace p165 := eq_true p165; replace q165 := eq_true q165; have p166 : 0 ≤ (0 : Int) := (by omega); have q166 : 0 < (l0.length : Int) := of_decide_eq_true (by first | (with_reducible assumption) | assumption); obtain ⟨ad166, A166_4, c166_4, e166, hx166_0, hx166_1, hx166_2, hx166_3, hx166_4, hl166_4, hi166_4⟩ := at_T24 HR0.out 0 p166 q166; (try rw [← Nbq9.out] at hx166_1); obtain rfl : ad165 = ad166 := (by injection e166); have qi166 : (0 < l0.length) = True := eq_true (by omega); (try rw [show ((0 : Int)).toNat = 0 from rfl] at hx166_0); (try rw [show 0 * 5 = 0 from rfl] at hx166_0); (try rw [Addr.add_zero'] at hx166_0); (try rw [show ((0 : Int)).toNat = 0 from rfl] at hx166_1); (try rw [show 0 * 5 = 0 from rfl] at hx166_1); (try rw [Addr.add_zero'] at hx166_1); (try rw [show ((0 : Int)).toNat = 0 from rfl] at hx166_2); (try rw [show 0 * 5 = 0 from rfl] at hx166_2); (try rw [Addr.add_zero'] at hx166_2); (try rw [show ((0 : Int)).toNat = 0 from rfl] at hx166_3); (try rw [show 0 * 5 = 0 from rfl] at hx166_3); (try rw [Addr.add_zero'] at hx166_3); (try rw [show ((0 : Int)).toNat = 0 from rfl] at hx166_4); (try rw [show 0 * 5 = 0 from rfl] at hx166_4); (try rw [Addr.add_zero'] at hx166_4); replace hx166_0 := (HB.out.cell (zaiad w _ hx166_0)).trans hx166_0; replace hx166_1 := (HB.out.cell (zaiad w _ hx166_1)).trans hx166_1; replace hx166_2 := (HB.out.cell (zaiad w _ hx166_2)).trans hx166_2; replace hx166_3 := (HB.out.cell (zaiad w _ hx166_3)).trans hx166_3; replace hx166_4 := (HB.out.cell (zaiad w _ hx166_4)).trans hx166_4; have HR166_4 := zaiaq hi166_4; have HC166_4 := zaiaq hl166_4; clear hi166_4 hl166_4; replace p166 := eq_true p166; replace q166 := eq_true q166; have ea_ := Option.some.inj (hx165_4.symm.trans hx166_4); injection ea_ with ea_ en_ ec_; subst ea_; subst ec_; clear en_) | ((with_reducible refine gate_callee (f := 38) rfl ?_); refine goesL_ (some 23) rfl rfl Try.func38 (by kernel_rfl) rfl #[.agg #[.int .i64 ((rd_T24 l0 0).f0), .bool false, .int .i64 ((rd_T24 l0 0).f2), .string ((rd_T24 l0 0).f3), .slice A165_4 ((rd_T24 l0 0).f4).length c165_4]] rfl (by (try simp only [zaian, zaiao, zaiap]); first | done | rfl) ?_; (with_reducible refine (chain_own.calls ((rd_T24 l0 0).f0) false ((rd_T24 l0 0).f2) ((rd_T24 l0 0).f3) _ _ ((rd_T24 l0 0).f4) t167 t168 t169 t170 t171 _ ?side1 ?side2 A14.out).mono ?_); (case side1 => repeat (first | exact (Kd.C_below HR166_4.out HB.out) | (with_reducible refine Kd.C_alloc ?_ _) | (with_reducible refine Kd.C_drewN ?_ _) | (with_reducible refine Kd.C_drew ?_))); (case side2 => exact HC166_4.out); rintro e w17 ⟨v172, rfl, ho0, hb⟩; refine ⟨_, rfl, ?_⟩; have n0_ := zaiaq (Kd.R_lower ho0 (below_size (zh1 HB zaibc))); have n1_ := zbb zaiat hb; have n2_ := zaiaq (below_step (zh1 HB zaibc) hb); clear zaiat; clear HB; have HO173 := n0_; have zaiat := n1_; have HB := n2_; clear n0_ n1_ n2_; (try clear hb); (try clear hk); (try clear hi); (try clear ho0); have hcz18_0 : w17.cell? ⟨zaiau, 0, none⟩ = some (.int .i64 0) := (zaial zaiat.out 0).trans rfl; have hcz18_1 : w17.cell? ⟨zaiau, 1, none⟩ = some (.bool false) := (zaial zaiat.out 1).trans rfl; have hcz18_2 : w17.cell? ⟨zaiau, 2, none⟩ = some (.int .i64 0) := (zaial zaiat.out 2).trans rfl; have hcz18_3 : w17.cell? ⟨zaiau, 3, none⟩ = some (.string (⟨#[]⟩ : ByteArray)) := (zaial zaiat.out 3).trans rfl; have hcz18_4 : w17.cell? ⟨zaiau, 4, none⟩ = some (.slice none 0 0) := (zaial zaiat.out 4).trans rfl; have hfz18_0 := zaiam zaiat.out 0; have hfz18_1 := zaiam zaiat.out 1; have hfz18_2 := zaiam zaiat.out 2; have hfz18_3 := zaiam zaiat.out 3; have hfz18_4 := zaiam zaiat.out 4; obtain ⟨Ao19, co19, eo19⟩ := Kd.R_slice HO173.out; subst eo19))
     refine bodyPost_ret (results_ct rfl _ _ zaiau 24 #[.int .i64 t167, .bool t168, .int .i64 t169, .string t170, .slice Ao19 t171.length co19] (0, 0) _ rfl (by (with_reducible repeat (first | refine zaiae ?_ _ | refine zaiag ?_ | refine zaiaf ?_ _)); refine blk_put (cs := #[.int .i64 t167, .bool t168, .int .i64 t169, .string t170, .slice none 0 0]) ?_ 4 _ rfl; (with_reducible repeat (first | refine zaiae ?_ _ | refine zaiag ?_ | refine zaiaf ?_ _)); refine blk_put (cs := #[.int .i64 t167, .bool t168, .int .i64 t169, .string (⟨#[]⟩ : ByteArray), .slice none 0 0]) ?_ 3 _ rfl; (with_reducible repeat (first | refine zaiae ?_ _ | refine zaiag ?_ | refine zaiaf ?_ _)); refine blk_put (cs := #[.int .i64 t167, .bool t168, .int .i64 0, .string (⟨#[]⟩ : ByteArray), .slice none 0 0]) ?_ 2 _ rfl; (with_reducible repeat (first | refine zaiae ?_ _ | refine zaiag ?_ | refine zaiaf ?_ _)); refine blk_put (cs := #[.int .i64 t167, .bool false, .int .i64 0, .string (⟨#[]⟩ : ByteArray), .slice none 0 0]) ?_ 1 _ rfl; (with_reducible repeat (first | refine zaiae ?_ _ | refine zaiag ?_ | refine zaiaf ?_ _)); refine blk_put (cs := #[.int .i64 0, .bool false, .int .i64 0, .string (⟨#[]⟩ : ByteArray), .slice none 0 0]) ?_ 0 _ rfl; exact zbk zaiat) Try.underlying24 rfl (by kernel_rfl)) rfl ?_
     exact ⟨_, by first | rfl | (simp [errW_none, errW_some] <;> rfl) | (simp [*, errW_none, errW_some] <;> rfl), by (with_reducible repeat (first | apply Kd.R_alloc | apply Kd.R_drewN | apply Kd.R_drew)); exact Kd.R_mono (Kd.R_far (p := ⟨zaiau, 4, none⟩) (Kd.R_far (p := ⟨zaiau, 3, none⟩) (Kd.R_far (p := ⟨zaiau, 2, none⟩) (Kd.R_far (p := ⟨zaiau, 1, none⟩) (Kd.R_far (p := ⟨zaiau, 0, none⟩) (Kd.R_types HO173.out zaiat.out (by decide)) (fun _ hk => hk.2) (.int .i64 t167)) (fun _ hk => hk.2) (.bool t168)) (fun _ hk => hk.2) (.int .i64 t169)) (fun _ hk => hk.2) (.string t170)) (fun _ hk => hk.2) (.slice Ao19 t171.length co19)) (fun _ hk => trivial), zh1 HB zaibc⟩
   ·rw [if_neg c8] at H
    exact absurd H (by simp)
 ·replace c3 := Bool.eq_false_iff.mpr c3
  subst c3
  have H1 : (some (0, false, 0, (⟨#[]⟩ : ByteArray), ([] : List (S72)), 1)) = some (r1, r2, r3, r4, r5, r6) := by rw [if_neg (show ¬ (false = true) by decide)] at H; exact H
  clear H
  have H := H1
  clear H1
  simp only [Option.some.injEq, Prod.mk.injEq] at H
  obtain ⟨rfl, rfl, rfl, rfl, rfl, rfl⟩ := H
  go_enter Try.func24, Try.ntmps24
  go_wp2_with (first | ((with_reducible refine gate_dst (N := 2) rfl ?_); refine box_event ?hg (N := 2) ?hd (cs := #[.int .i64 0, .bool false, .int .i64 0, .string (⟨#[]⟩ : ByteArray), .slice none 0 0]) (t := 24) ?hr ?_; (case hd => rfl); (case hg => rfl); (case hr => first | (go_simp; done) | (go_simp; rfl)); intro zaiau hg w20 hbox hb; have n0_ := zaiaq (below_step (zh0 HB) hb); have n1_ := zaiaq (hbox); have n2_ := zns hg (zh0 HB); have n3_ := zns hg (zh0 HB); clear HB; have HB := n0_; have zaiat := n1_; have zaibg := n2_; have zaibc := n3_; clear n0_ n1_ n2_ n3_; clear hb hbox hg) | ((with_reducible refine gate_callee (f := 37) rfl ?_); refine goesL_ (some 6) rfl rfl Try.func37 (by kernel_rfl) rfl #[.slice A0 l0.length c0] rfl (by (try simp only [zaian, zaiao, zaiap]); first | done | rfl) ?_; (with_reducible refine (chain_right.calls k _ _ l0 false _ ?side1 ?side2 A2.out).mono ?_); (case side1 => repeat (first | exact (Kd.C_below HR0.out HB.out) | (with_reducible refine Kd.C_alloc ?_ _) | (with_reducible refine Kd.C_drewN ?_ _) | (with_reducible refine Kd.C_drew ?_))); (case side2 => exact HC0.out); rintro e w21 ⟨rfl, hb⟩; refine ⟨_, rfl, ?_⟩; have n0_ := zbb zaiat hb; have n1_ := zaiaq (below_step (zh1 HB zaibc) hb); clear zaiat; clear HB; have zaiat := n0_; have HB := n1_; clear n0_ n1_; (try clear hb); (try clear hk); (try clear hi); have hcz22_0 : w21.cell? ⟨zaiau, 0, none⟩ = some (.int .i64 0) := (zaial zaiat.out 0).trans rfl; have hcz22_1 : w21.cell? ⟨zaiau, 1, none⟩ = some (.bool false) := (zaial zaiat.out 1).trans rfl; have hcz22_2 : w21.cell? ⟨zaiau, 2, none⟩ = some (.int .i64 0) := (zaial zaiat.out 2).trans rfl; have hcz22_3 : w21.cell? ⟨zaiau, 3, none⟩ = some (.string (⟨#[]⟩ : ByteArray)) := (zaial zaiat.out 3).trans rfl; have hcz22_4 : w21.cell? ⟨zaiau, 4, none⟩ = some (.slice none 0 0) := (zaial zaiat.out 4).trans rfl; have hfz22_0 := zaiam zaiat.out 0; have hfz22_1 := zaiam zaiat.out 1; have hfz22_2 := zaiam zaiat.out 2; have hfz22_3 := zaiam zaiat.out 3; have hfz22_4 := zaiam zaiat.out 4))
  refine bodyPost_ret (results_ct rfl _ _ zaiau 24 #[.int .i64 0, .bool false, .int .i64 0, .string (⟨#[]⟩ : ByteArray), .slice none 0 0] (0, 0) _ rfl (by (with_reducible repeat (first | refine zaiae ?_ _ | refine zaiag ?_ | refine zaiaf ?_ _)); refine blk_put (cs := #[.int .i64 0, .bool false, .int .i64 0, .string (⟨#[]⟩ : ByteArray), .slice none 0 0]) ?_ 4 _ rfl; (with_reducible repeat (first | refine zaiae ?_ _ | refine zaiag ?_ | refine zaiaf ?_ _)); refine blk_put (cs := #[.int .i64 0, .bool false, .int .i64 0, .string (⟨#[]⟩ : ByteArray), .slice none 0 0]) ?_ 3 _ rfl; (with_reducible repeat (first | refine zaiae ?_ _ | refine zaiag ?_ | refine zaiaf ?_ _)); refine blk_put (cs := #[.int .i64 0, .bool false, .int .i64 0, .string (⟨#[]⟩ : ByteArray), .slice none 0 0]) ?_ 2 _ rfl; (with_reducible repeat (first | refine zaiae ?_ _ | refine zaiag ?_ | refine zaiaf ?_ _)); refine blk_put (cs := #[.int .i64 0, .bool false, .int .i64 0, .string (⟨#[]⟩ : ByteArray), .slice none 0 0]) ?_ 1 _ rfl; (with_reducible repeat (first | refine zaiae ?_ _ | refine zaiag ?_ | refine zaiaf ?_ _)); refine blk_put (cs := #[.int .i64 0, .bool false, .int .i64 0, .string (⟨#[]⟩ : ByteArray), .slice none 0 0]) ?_ 0 _ rfl; exact zbk zaiat) Try.underlying24 rfl (by kernel_rfl)) rfl ?_
  exact ⟨_, by first | rfl | (simp [errW_none, errW_some] <;> rfl) | (simp [*, errW_none, errW_some] <;> rfl), by first | exact Kd.R_nil _ _ _ _ _ | exact Kd.N_nil _ _ _ _ _ | exact Kd.V_nil _ _ _ _ _ | exact Kd.Q_nil _ _ _ _ _ | exact Kd.S_nil _ _ _ _ _, zh1 HB zaibc⟩

/-! ### stowagelaw13_zeros: function 36 -/
def stowagelaw13_zeros.l0 : Nat → List Int → Int → Option (ByteArray)
 | 0, _, _ => none
 | k + 1, x1, x2 => if x2 < 64 then (if 0 ≤ x2 then (if x2 < (x1.length : Int) then (stowagelaw13_zeros.l0 k (x1.set (x2 : Int).toNat 48) (wrap64 (x2 + 1))) else (none)) else (none)) else (some (strOfNums x1))
def stowagelaw13_zeros.f (k : Nat)  : Option (ByteArray) := stowagelaw13_zeros.l0 k (List.replicate 64 0) 0
theorem stowagelaw13_zeros.mono_l : ∀ k, (∀ y0 y1, LeO (stowagelaw13_zeros.l0 k y0 y1) (stowagelaw13_zeros.l0 (k + 1) y0 y1))
 | 0 => fun _ _ r h => by simp [stowagelaw13_zeros.l0] at h
 | k + 1 => by
  have ih0 := stowagelaw13_zeros.mono_l k
  ·intro y0 y1
   unfold stowagelaw13_zeros.l0
   repeat' first
   | (with_reducible exact ih0 _ _)
   | (with_reducible exact LeO.refl _)
   | (with_reducible exact LeO.none _)
   | (with_reducible refine LeO.ite ?_ ?_)
   | (with_reducible refine LeO.bind ?_ (fun _ => ?_))
   | exact ih0 _ _
   | exact LeO.none _
   | refine LeO.ite ?_ ?_
   | refine LeO.bind ?_ (fun _ => ?_)
theorem stowagelaw13_zeros.mono : ∀ k, LeO (stowagelaw13_zeros.f k ) (stowagelaw13_zeros.f (k + 1) ) := by
 intro  k
 have ih0 := stowagelaw13_zeros.mono_l k
 unfold stowagelaw13_zeros.f
 repeat' first
   | (with_reducible exact ih0 _ _)
   | (with_reducible exact LeO.refl _)
   | (with_reducible exact LeO.none _)
   | (with_reducible refine LeO.ite ?_ ?_)
   | (with_reducible refine LeO.bind ?_ (fun _ => ?_))
   | exact ih0 _ _
   | exact LeO.none _
   | refine LeO.ite ?_ ?_
   | refine LeO.bind ?_ (fun _ => ?_)
set_option maxHeartbeats 8000000 in
set_option maxRecDepth 100000 in
theorem stowagelaw13_zeros.calls (k : Nat)  (r : ByteArray) (w : World) (h : stowagelaw13_zeros.f k  = some r) :
  Calls Try.prog 36 #[] w fun e w' => e = .returned (.string r) ∧ Below w.heap.size w w' := by
 have HB := zaiaq (Below.refl w.heap.size w)
 have H : (stowagelaw13_zeros.l0 k (List.replicate 64 0) 0) = some r := h
 clear h
 obtain ⟨y174, hy174⟩ : ∃ y_ : List Int, y_ = (List.replicate 64 0) := ⟨_, rfl⟩
 replace H : (stowagelaw13_zeros.l0 k y174 0) = some r := by first | (rw [hy174]; with_reducible exact H) | (have H2_ := (Option.bind_some _ _).symm.trans H; rw [hy174]; with_reducible exact H2_) | (have H2_ := (Option.bind_some _ _).symm.trans H; with_reducible exact H2_) | with_reducible exact H | (rw [hy174]; exact H) | exact H
 have Ny174 := zaiaq hy174
 clear hy174
 have H' := zaiaq H
 clear H
 go_enter Try.func36, Try.ntmps36
 go_wp2_with (first | ((with_reducible refine gate_dst (N := 3) rfl ?_); refine Kd.R_make (Kd.int .u8) _ 5 rfl (N := 3) rfl 102 _ _ rfl 64 rfl rfl Try.underlying102 (.int .u8 0) 1 info5 rfl (by decide) (by omega) 0 (ok := fun _ => True) (okp := fun _ => True) rfl (fun _ hk => hk) trivial (by omega) (by omega) (Below.refl _ _) (Nat.le_refl _) ?_; intro v175 w1 ho2 hb hg_ hnew_; clear hg_ hnew_; (first | rw [← Ny174.out] at ho2 | (simp only [Int.reduceToNat] at ho2; rw [← Ny174.out] at ho2)); have n0_ := zaiaq (Kd.R_lower ho2 (below_size (zh0 HB))); have n1_ := zaiaq (below_step (zh0 HB) hb); clear HB; have HO176 := n0_; have HB := n1_; clear n0_ n1_; clear hb ho2))
 go_loopg [2] k (fun kq v2 w' => ∃ (zaibf : List Int) (zaiba : Int), v2 = .int .i64 zaiba ∧ Aside0 (stowagelaw13_zeros.l0 kq zaibf zaiba = some r) ∧ Aside0 (kq ≤ k) ∧ Aside0 (Kd.R (Kd.int .u8) 5 w' w.heap.size (fun _ => True) v175 zaibf) ∧ Aside0 (Below w.heap.size w w'))
 case atStart => exact ⟨(y174), (0), (by first | rfl | (simp; done) | (simp [*]; done)), H', ⟨Nat.le_refl _⟩, ⟨zrk HO176⟩, ⟨zh0 HB⟩⟩
 case round =>
  clear H'
  try clear p2
  obtain ⟨zaibf, zaiba, rfl, HA, HK1, HO_1, HB⟩ := hrel
  cases gk with
  | zero => exact absurd HA.out (by simp [stowagelaw13_zeros.l0])
  | succ k1 =>
   have H := HA.out
   clear HA
   simp only [stowagelaw13_zeros.l0] at H
   by_cases c3 : zaiba < 64
   ·rw [if_pos c3] at H
    have c3b0 : decide (zaiba < 64) = true := decide_eq_true c3
    clear c3
    by_cases c4 : 0 ≤ zaiba
    ·rw [if_pos c4] at H
     have c4b0 : decide (0 ≤ zaiba) = true := decide_eq_true c4
     clear c4
     by_cases c5 : zaiba < (zaibf.length : Int)
     ·rw [if_pos c5] at H
      have c5b0 : decide (zaiba < (zaibf.length : Int)) = true := decide_eq_true c5
      clear c5
      obtain ⟨y177, hy177⟩ : ∃ y_ : List Int, y_ = (zaibf.set (zaiba : Int).toNat 48) := ⟨_, rfl⟩
      replace H : (stowagelaw13_zeros.l0 k1 y177 (wrap64 (zaiba + 1))) = some r := by first | (rw [hy177]; with_reducible exact H) | (have H2_ := (Option.bind_some _ _).symm.trans H; rw [hy177]; with_reducible exact H2_) | (have H2_ := (Option.bind_some _ _).symm.trans H; with_reducible exact H2_) | with_reducible exact H | (rw [hy177]; exact H) | exact H
      have Ny177 := zaiaq hy177
      clear hy177
      have H' := zaiaq H
      clear H
      have p6 : 0 ≤ (zaiba : Int) := of_decide_eq_true (by first | (with_reducible assumption) | assumption)
      have q6 : (zaiba : Int) < ((zaibf.length : Int) : Int) := of_decide_eq_true (by first | (with_reducible assumption) | assumption)
      obtain ⟨go6, co6, eo6, gb6, gl6, cl6, HG6⟩ := Kd.R_form HO_1.out (by omega)
      (first | cases eo6 | (injection eo6 with ea_ en_ ec_; (first | subst ea_ | (injection ea_ with ea_; subst ea_)); subst ec_; clear en_))
      have GB6 := zaiaq gb6
      have GG6 := zaiaq HG6
      clear gb6 gl6 HG6
      obtain ⟨hx6_0, hf6_0⟩ := Kd.R_celln 0 HO_1.out (zaiba : Int) p6 q6
      replace p6 := eq_true p6
      replace q6 := eq_true q6
      have HP7 := Kd.R_putg HO_1.out (zaiba : Int) 48
      go_wp2_with (first | ((with_reducible refine gate_store (t := 5) (p := 10) rfl ?_); refine store_event (t := 5) (p := 10) (v := ?vo_w8) (w1 := (wr.setCell ⟨go6, (zaiba : Int).toNat, none⟩ (.int .u8 48))) ?hg ?ho ?hn ?hr ?_; (case ho => rfl); (case hg => rfl); (case hn => rfl); (case hr => first | (go_simp; done) | (go_simp; rfl)); intro w8 hw; have hg : wr.grownBy w8 (some go6) := (by rw [hw]; exact HP7.2); have hp_ : Kd.R (Kd.int .u8) 5 w8 w.heap.size (fun _ => True) (.slice (some ⟨go6, 0, none⟩) zaibf.length co6) y177 := (by rw [hw, Ny177.out]; exact HP7.1); clear HP7; have n0_ := zaiaq (hp_); have n1_ := zaiaq ((by rw [hw]; exact zaiah (HB.out) GB6.out : Below w.heap.size w w8)); clear HO_1; clear HB; have HO_1 := n0_; have HB := n1_; clear n0_ n1_; clear hg hw hp_))
      go_roundg k1
      case measure => have := HK1.out; omega
      case rel => exact ⟨(y177), (wrap64 (zaiba + 1)), (by first | rfl | (simp; done) | (simp [*]; done)), H', ⟨by have := HK1.out; omega⟩, ⟨zrk HO_1⟩, ⟨zh0 HB⟩⟩
     ·rw [if_neg c5] at H
      exact absurd H (by simp)
    ·rw [if_neg c4] at H
     exact absurd H (by simp)
   ·rw [if_neg c3] at H
    have c3b0 : decide (zaiba < 64) = false := decide_eq_false c3
    clear c3
    obtain rfl := Option.some.inj H
    have hcv9 := own_string (P := Try.prog) Try.underlying102 Try.underlying5 Try.underlying9 (Kd.own_of_R HO_1.out)
    go_wp2
    go_ret
    exact ⟨by first | rfl | (simp [errW_none, errW_some] <;> rfl) | (simp [*, errW_none, errW_some] <;> rfl), zh0 HB⟩

/-! ### stowagelaw13_awake: function 12 -/
def stowagelaw13_awake.f (k : Nat)  : Option (Bool) := (stowagelaw13_zeros.f k).bind fun t178 => ((stowagelaw13_zeros.f k).bind fun t179 => ((chain_Put.f k ([] : List (S24)) 3 false 2 t178 (([(⟨t179, 2⟩ : S72)] : List (S72)))).bind fun bt184 => ((chain_Put.f k bt184.1 5 true 0 (⟨#[]⟩ : ByteArray) ([] : List (S72))).bind fun bt188 => ((chain_Latest.f k bt188.1).bind fun bt192 => ((chain_Drop.f k bt188.1 5).bind fun bt201 => ((chain_Latest.f k bt201.1).bind fun bt205 => (if bt184.2 = 0 then (if bt188.2 = 0 then (if bt192.2.2.2.2.2 = 130 then (if bt201.2 = 0 then (if bt205.2.2.2.2.2 = 0 then (if bt205.1 = 3 then (if bt205.2.2.1 = 2 then (some ((bt205.2.2.2.2.1.length : Int) == 1)) else (some false)) else (some false)) else (some false)) else (some false)) else (some false)) else (some false)) else (some false))))))))
theorem stowagelaw13_awake.mono : ∀ k, LeO (stowagelaw13_awake.f k ) (stowagelaw13_awake.f (k + 1) ) := by
 intro  k
 unfold stowagelaw13_awake.f
 repeat' first
   | (with_reducible exact chain_Drop.mono _ _ _)
   | (with_reducible exact chain_Latest.mono _ _)
   | (with_reducible exact chain_Put.mono _ _ _ _ _ _ _)
   | (with_reducible exact stowagelaw13_zeros.mono _)
   | (with_reducible exact LeO.refl _)
   | (with_reducible exact LeO.none _)
   | (with_reducible refine LeO.ite ?_ ?_)
   | (with_reducible refine LeO.bind ?_ (fun _ => ?_))
   | exact chain_Drop.mono _ _ _
   | exact chain_Latest.mono _ _
   | exact chain_Put.mono _ _ _ _ _ _ _
   | exact stowagelaw13_zeros.mono _
   | exact LeO.none _
   | refine LeO.ite ?_ ?_
   | refine LeO.bind ?_ (fun _ => ?_)
set_option maxRecDepth 100000 in
theorem awake300 : stowagelaw13_awake.f 300 = some true := by kernel_rfl
theorem awake_ev : Ev (fun k => stowagelaw13_awake.f k) true := Ev.of stowagelaw13_awake.mono awake300
theorem awake_true {k : Nat} {r : Bool} (h : stowagelaw13_awake.f k = some r) : r = true := by
 obtain ⟨K, hK⟩ := Ev.of stowagelaw13_awake.mono h
 obtain ⟨K2, hK2⟩ := awake_ev
 exact Option.some.inj ((hK (max K K2) (by omega)).symm.trans (hK2 (max K K2) (by omega)))
set_option maxHeartbeats 8000000 in
set_option maxRecDepth 100000 in
theorem stowagelaw13_awake.calls (k : Nat)  (r : Bool) (w : World) (h : stowagelaw13_awake.f k  = some r) :
  Calls Try.prog 12 #[] w fun e w' => e = .returned (.bool r) ∧ Below w.heap.size w w' := by
 have hu72 := Try.underlying72
 have hu24 := Try.underlying24
 have HTR : Aside0 (r = true) := ⟨awake_true h⟩
 have HB := zaiaq (Below.refl w.heap.size w)
 have H : ((stowagelaw13_zeros.f k).bind fun t178 => ((stowagelaw13_zeros.f k).bind fun t179 => ((chain_Put.f k ([] : List (S24)) 3 false 2 t178 (([(⟨t179, 2⟩ : S72)] : List (S72)))).bind fun bt184 => ((chain_Put.f k bt184.1 5 true 0 (⟨#[]⟩ : ByteArray) ([] : List (S72))).bind fun bt188 => ((chain_Latest.f k bt188.1).bind fun bt192 => ((chain_Drop.f k bt188.1 5).bind fun bt201 => ((chain_Latest.f k bt201.1).bind fun bt205 => (if bt184.2 = 0 then (if bt188.2 = 0 then (if bt192.2.2.2.2.2 = 130 then (if bt201.2 = 0 then (if bt205.2.2.2.2.2 = 0 then (if bt205.1 = 3 then (if bt205.2.2.1 = 2 then (some ((bt205.2.2.2.2.1.length : Int) == 1)) else (some false)) else (some false)) else (some false)) else (some false)) else (some false)) else (some false)) else (some false))))))))) = some r := h
 clear h
 replace H := Option.bind_eq_some_iff.mp H
 obtain ⟨t178, A10, H⟩ := H
 replace H : ((stowagelaw13_zeros.f k).bind fun t179 => ((chain_Put.f k ([] : List (S24)) 3 false 2 t178 (([(⟨t179, 2⟩ : S72)] : List (S72)))).bind fun bt184 => ((chain_Put.f k bt184.1 5 true 0 (⟨#[]⟩ : ByteArray) ([] : List (S72))).bind fun bt188 => ((chain_Latest.f k bt188.1).bind fun bt192 => ((chain_Drop.f k bt188.1 5).bind fun bt201 => ((chain_Latest.f k bt201.1).bind fun bt205 => (if bt184.2 = 0 then (if bt188.2 = 0 then (if bt192.2.2.2.2.2 = 130 then (if bt201.2 = 0 then (if bt205.2.2.2.2.2 = 0 then (if bt205.1 = 3 then (if bt205.2.2.1 = 2 then (some ((bt205.2.2.2.2.1.length : Int) == 1)) else (some false)) else (some false)) else (some false)) else (some false)) else (some false)) else (some false)) else (some false)))))))) = some r := H
 have A1 := zaiaq A10
 clear A10
 replace H := Option.bind_eq_some_iff.mp H
 obtain ⟨t179, A20, H⟩ := H
 replace H : ((chain_Put.f k ([] : List (S24)) 3 false 2 t178 (([(⟨t179, 2⟩ : S72)] : List (S72)))).bind fun bt184 => ((chain_Put.f k bt184.1 5 true 0 (⟨#[]⟩ : ByteArray) ([] : List (S72))).bind fun bt188 => ((chain_Latest.f k bt188.1).bind fun bt192 => ((chain_Drop.f k bt188.1 5).bind fun bt201 => ((chain_Latest.f k bt201.1).bind fun bt205 => (if bt184.2 = 0 then (if bt188.2 = 0 then (if bt192.2.2.2.2.2 = 130 then (if bt201.2 = 0 then (if bt205.2.2.2.2.2 = 0 then (if bt205.1 = 3 then (if bt205.2.2.1 = 2 then (some ((bt205.2.2.2.2.1.length : Int) == 1)) else (some false)) else (some false)) else (some false)) else (some false)) else (some false)) else (some false)) else (some false))))))) = some r := H
 have A2 := zaiaq A20
 clear A20
 obtain ⟨y180, hy180⟩ : ∃ y_ : List (S72), y_ = (([(⟨t179, 2⟩ : S72)] : List (S72))) := ⟨_, rfl⟩
 replace H : ((chain_Put.f k ([] : List (S24)) 3 false 2 t178 y180).bind fun bt184 => ((chain_Put.f k bt184.1 5 true 0 (⟨#[]⟩ : ByteArray) ([] : List (S72))).bind fun bt188 => ((chain_Latest.f k bt188.1).bind fun bt192 => ((chain_Drop.f k bt188.1 5).bind fun bt201 => ((chain_Latest.f k bt201.1).bind fun bt205 => (if bt184.2 = 0 then (if bt188.2 = 0 then (if bt192.2.2.2.2.2 = 130 then (if bt201.2 = 0 then (if bt205.2.2.2.2.2 = 0 then (if bt205.1 = 3 then (if bt205.2.2.1 = 2 then (some ((bt205.2.2.2.2.1.length : Int) == 1)) else (some false)) else (some false)) else (some false)) else (some false)) else (some false)) else (some false)) else (some false))))))) = some r := by first | (rw [hy180]; with_reducible exact H) | (have H2_ := (Option.bind_some _ _).symm.trans H; rw [hy180]; with_reducible exact H2_) | (have H2_ := (Option.bind_some _ _).symm.trans H; with_reducible exact H2_) | with_reducible exact H | (rw [hy180]; exact H) | exact H
 have Ny180 := zaiaq hy180
 clear hy180
 replace H := Option.bind_eq_some_iff.mp H
 obtain ⟨⟨t184, t187⟩, A30, H⟩ := H
 replace H : ((chain_Put.f k t184 5 true 0 (⟨#[]⟩ : ByteArray) ([] : List (S72))).bind fun bt188 => ((chain_Latest.f k bt188.1).bind fun bt192 => ((chain_Drop.f k bt188.1 5).bind fun bt201 => ((chain_Latest.f k bt201.1).bind fun bt205 => (if t187 = 0 then (if bt188.2 = 0 then (if bt192.2.2.2.2.2 = 130 then (if bt201.2 = 0 then (if bt205.2.2.2.2.2 = 0 then (if bt205.1 = 3 then (if bt205.2.2.1 = 2 then (some ((bt205.2.2.2.2.1.length : Int) == 1)) else (some false)) else (some false)) else (some false)) else (some false)) else (some false)) else (some false)) else (some false)))))) = some r := H
 have A3 := zaiaq A30
 clear A30
 replace H := Option.bind_eq_some_iff.mp H
 obtain ⟨⟨t188, t191⟩, A40, H⟩ := H
 replace H : ((chain_Latest.f k t188).bind fun bt192 => ((chain_Drop.f k t188 5).bind fun bt201 => ((chain_Latest.f k bt201.1).bind fun bt205 => (if t187 = 0 then (if t191 = 0 then (if bt192.2.2.2.2.2 = 130 then (if bt201.2 = 0 then (if bt205.2.2.2.2.2 = 0 then (if bt205.1 = 3 then (if bt205.2.2.1 = 2 then (some ((bt205.2.2.2.2.1.length : Int) == 1)) else (some false)) else (some false)) else (some false)) else (some false)) else (some false)) else (some false)) else (some false))))) = some r := H
 have A4 := zaiaq A40
 clear A40
 replace H := Option.bind_eq_some_iff.mp H
 obtain ⟨⟨t192, t193, t194, t195, t196, t199⟩, A50, H⟩ := H
 replace H : ((chain_Drop.f k t188 5).bind fun bt201 => ((chain_Latest.f k bt201.1).bind fun bt205 => (if t187 = 0 then (if t191 = 0 then (if t199 = 130 then (if bt201.2 = 0 then (if bt205.2.2.2.2.2 = 0 then (if bt205.1 = 3 then (if bt205.2.2.1 = 2 then (some ((bt205.2.2.2.2.1.length : Int) == 1)) else (some false)) else (some false)) else (some false)) else (some false)) else (some false)) else (some false)) else (some false)))) = some r := H
 have A5 := zaiaq A50
 clear A50
 replace H := Option.bind_eq_some_iff.mp H
 obtain ⟨⟨t201, t204⟩, A60, H⟩ := H
 replace H : ((chain_Latest.f k t201).bind fun bt205 => (if t187 = 0 then (if t191 = 0 then (if t199 = 130 then (if t204 = 0 then (if bt205.2.2.2.2.2 = 0 then (if bt205.1 = 3 then (if bt205.2.2.1 = 2 then (some ((bt205.2.2.2.2.1.length : Int) == 1)) else (some false)) else (some false)) else (some false)) else (some false)) else (some false)) else (some false)) else (some false))) = some r := H
 have A6 := zaiaq A60
 clear A60
 replace H := Option.bind_eq_some_iff.mp H
 obtain ⟨⟨t205, t206, t207, t208, t209, t212⟩, A70, H⟩ := H
 replace H : (if t187 = 0 then (if t191 = 0 then (if t199 = 130 then (if t204 = 0 then (if t212 = 0 then (if t205 = 3 then (if t207 = 2 then (some ((t209.length : Int) == 1)) else (some false)) else (some false)) else (some false)) else (some false)) else (some false)) else (some false)) else (some false)) = some r := H
 have A7 := zaiaq A70
 clear A70
 by_cases c8 : t187 = 0
 ·rw [if_pos c8] at H
  have c8b0 : (t187 == 0) = true := beq_iff_eq.mpr c8
  have c8b1 : (t187 != 0) = false := bne_eq_false_iff_eq.mpr c8
  clear c8
  by_cases c9 : t191 = 0
  ·rw [if_pos c9] at H
   have c9b0 : (t191 == 0) = true := beq_iff_eq.mpr c9
   have c9b1 : (t191 != 0) = false := bne_eq_false_iff_eq.mpr c9
   clear c9
   by_cases c10 : t199 = 130
   ·rw [if_pos c10] at H
    have c10b0 : (t199 == 130) = true := beq_iff_eq.mpr c10
    have c10b1 : (t199 != 130) = false := bne_eq_false_iff_eq.mpr c10
    clear c10
    by_cases c11 : t204 = 0
    ·rw [if_pos c11] at H
     have c11b0 : (t204 == 0) = true := beq_iff_eq.mpr c11
     have c11b1 : (t204 != 0) = false := bne_eq_false_iff_eq.mpr c11
     clear c11
     by_cases c12 : t212 = 0
     ·rw [if_pos c12] at H
      have c12b0 : (t212 == 0) = true := beq_iff_eq.mpr c12
      have c12b1 : (t212 != 0) = false := bne_eq_false_iff_eq.mpr c12
      clear c12
      by_cases c13 : t205 = 3
      ·rw [if_pos c13] at H
       have c13b0 : (t205 == 3) = true := beq_iff_eq.mpr c13
       have c13b1 : (t205 != 3) = false := bne_eq_false_iff_eq.mpr c13
       clear c13
       by_cases c14 : t207 = 2
       ·rw [if_pos c14] at H
        have c14b0 : (t207 == 2) = true := beq_iff_eq.mpr c14
        have c14b1 : (t207 != 2) = false := bne_eq_false_iff_eq.mpr c14
        clear c14
        obtain rfl := Option.some.inj H
        go_enter Try.func12, Try.ntmps12
        go_wp2_with (first | ((with_reducible refine gate_callee (f := 36) rfl ?_); refine goesL_ (some 12) rfl rfl Try.func36 (by kernel_rfl) rfl #[] rfl (by (try simp only [zaian, zaiao, zaiap]); first | done | rfl) ?_; (with_reducible refine (stowagelaw13_zeros.calls k  t178 _ A1.out).mono ?_); rintro e w15 ⟨rfl, hb⟩; refine ⟨_, rfl, ?_⟩; have n0_ := zaiaq (below_step (zh0 HB) hb); clear HB; have HB := n0_; clear n0_; (try clear hb); (try clear hk); (try clear hi)) | ((with_reducible refine gate_callee (f := 36) rfl ?_); refine goesL_ (some 13) rfl rfl Try.func36 (by kernel_rfl) rfl #[] rfl (by (try simp only [zaian, zaiao, zaiap]); first | done | rfl) ?_; (with_reducible refine (stowagelaw13_zeros.calls k  t179 _ A2.out).mono ?_); rintro e w16 ⟨rfl, hb⟩; refine ⟨_, rfl, ?_⟩; have n0_ := zaiaq (below_step (zh0 HB) hb); clear HB; have HB := n0_; clear n0_; (try clear hb); (try clear hk); (try clear hi)) | ((with_reducible refine gate_dst (N := 15) rfl ?_); (try (refine gate_guard (by rfl) ?_; dsimp only)); refine Kd.R_lit k72 _ 72 ?hg (N := 15) ?hd (xs := ([(⟨t179, 2⟩ : S72)] : List (S72))) (inner := [.string t179, .int .i64 2]) (ok := fun _ => True) (okp := fun _ => True) ?hr ?hp (fun _ hk => hk) trivial (Below.refl _ _) (Nat.le_refl _) (by simp) ?_; (case hd => rfl); (case hg => rfl); (case hr => first | (go_simp; done) | (go_simp; rfl)); (case hp => exact (Reps.c2 (show Kd.M k72 _ _ _ (⟨t179, 2⟩ : S72) [.string t179, .int .i64 2] from (k72_mkM _ _ _ (⟨t179, 2⟩ : S72) )) (Reps.none _ _))); intro v181 w17 ho18 hb hg_ hnew_; clear hg_ hnew_; (first | rw [← Ny180.out] at ho18 | (simp only [Int.reduceToNat] at ho18; rw [← Ny180.out] at ho18)); have n0_ := zaiaq (Kd.R_lower ho18 (below_size (zh0 HB))); have n1_ := zaiaq (below_step (zh0 HB) hb); clear HB; have HO182 := n0_; have HB := n1_; clear n0_ n1_; clear hb ho18; obtain ⟨Ao19, co19, eo19⟩ := Kd.R_slice HO182.out; subst eo19) | ((with_reducible refine gate_dst (N := 1) rfl ?_); (try (refine gate_guard (by rfl) ?_; dsimp only)); refine box_event ?hg (N := 1) ?hd (cs := #[.int .i64 0, .bool false, .int .i64 0, .string (⟨#[]⟩ : ByteArray), .slice none 0 0]) (t := 24) ?hr ?_; (case hd => rfl); (case hg => rfl); (case hr => first | (go_simp; done) | (go_simp; rfl)); intro zaiav hg w20 hbox hb; have n0_ := zaiaq (Kd.R_below (zrk HO182) hb); have n1_ := zaiaq (below_step (zh0 HB) hb); have n2_ := zaiaq (hbox); have n3_ := zns hg (zh0 HB); have n4_ := zns hg (zh0 HB); clear HO182; clear HB; have HO182 := n0_; have HB := n1_; have zaiaw := n2_; have GW183 := n3_; have zaiaz := n4_; clear n0_ n1_ n2_ n3_ n4_; clear hb hbox hg; have hcz21_0 : w20.cell? ⟨zaiav, 0, none⟩ = some (.int .i64 0) := (zaial zaiaw.out 0).trans rfl; have hcz21_1 : w20.cell? ⟨zaiav, 1, none⟩ = some (.bool false) := (zaial zaiaw.out 1).trans rfl; have hcz21_2 : w20.cell? ⟨zaiav, 2, none⟩ = some (.int .i64 0) := (zaial zaiaw.out 2).trans rfl; have hcz21_3 : w20.cell? ⟨zaiav, 3, none⟩ = some (.string (⟨#[]⟩ : ByteArray)) := (zaial zaiaw.out 3).trans rfl; have hcz21_4 : w20.cell? ⟨zaiav, 4, none⟩ = some (.slice none 0 0) := (zaial zaiaw.out 4).trans rfl; have hfz21_0 := zaiam zaiaw.out 0; have hfz21_1 := zaiam zaiaw.out 1; have hfz21_2 := zaiam zaiaw.out 2; have hfz21_3 := zaiam zaiaw.out 3; have hfz21_4 := zaiam zaiaw.out 4) | ((with_reducible refine gate_callee (f := 16) rfl ?_); refine goesL_ (some 19) rfl rfl Try.func16 (by kernel_rfl) rfl #[.slice none 0 0, .agg #[.int .i64 3, .bool false, .int .i64 2, .string t178, .slice Ao19 y180.length co19]] rfl (by (try simp only [zaian, zaiao, zaiap]); first | done | rfl) ?_; (refine (chain_Put.calls k _ _ ([] : List (S24)) 3 false 2 t178 _ _ y180 t184 t187 _ ?side1 ?side2 ?side3 ?side4 A3.out).mono ?_); (case side1 => exact Kd.C_nil _ _); (case side2 => exact Nat.le_refl _); (case side3 => refine (Kd.R_reads' (e := 72) (base := w.heap.size) (ok := fun k_ => True) (n := y180.length) (c := co19) ?_).2.2; exact (by (with_reducible repeat (first | apply Kd.R_alloc | apply Kd.R_drewN | apply Kd.R_drew)); exact (Kd.R_mono (Kd.R_far (p := ⟨zaiav, 4, none⟩) (Kd.R_far (p := ⟨zaiav, 3, none⟩) (Kd.R_far (p := ⟨zaiav, 2, none⟩) (Kd.R_far (p := ⟨zaiav, 1, none⟩) (Kd.R_far (p := ⟨zaiav, 0, none⟩) (Kd.R_types HO182.out zaiaw.out (by decide)) (fun _ hk => hk.2) (.int .i64 3)) (fun _ hk => hk.2) (.bool false)) (fun _ hk => hk.2) (.int .i64 2)) (fun _ hk => hk.2) (.string t178)) (fun _ hk => hk.2) (.slice Ao19 y180.length co19)) (fun _ h_ => h_.1)))); (case side4 => exact (Kd.R_reads' HO182.out).2.1); rintro e w22 ⟨v185, rfl, ho0, hb⟩; refine ⟨_, rfl, ?_⟩; have n0_ := zaiaq (Kd.R_below (by (with_reducible repeat (first | apply Kd.R_alloc | apply Kd.R_drewN | apply Kd.R_drew)); exact (Kd.R_mono (Kd.R_far (p := ⟨zaiav, 4, none⟩) (Kd.R_far (p := ⟨zaiav, 3, none⟩) (Kd.R_far (p := ⟨zaiav, 2, none⟩) (Kd.R_far (p := ⟨zaiav, 1, none⟩) (Kd.R_far (p := ⟨zaiav, 0, none⟩) (Kd.R_types HO182.out zaiaw.out (by decide)) (fun _ hk => hk.2) (.int .i64 3)) (fun _ hk => hk.2) (.bool false)) (fun _ hk => hk.2) (.int .i64 2)) (fun _ hk => hk.2) (.string t178)) (fun _ hk => hk.2) (.slice Ao19 y180.length co19)) (fun _ h_ => h_.1))) hb); have n1_ := zaiaq (Kd.N_lower (Kd.N_mono (ok' := fun k_ => some k_ ≠ (.slice Ao19 y180.length co19 : Value).ownBlock ∧ k_ ≠ zaiav) ho0 (fun k_ hk_ => ⟨(Kd.fresh' (Kd.R_lt (by (with_reducible repeat (first | apply Kd.R_alloc | apply Kd.R_drewN | apply Kd.R_drew)); exact (Kd.R_mono (Kd.R_far (p := ⟨zaiav, 4, none⟩) (Kd.R_far (p := ⟨zaiav, 3, none⟩) (Kd.R_far (p := ⟨zaiav, 2, none⟩) (Kd.R_far (p := ⟨zaiav, 1, none⟩) (Kd.R_far (p := ⟨zaiav, 0, none⟩) (Kd.R_types HO182.out zaiaw.out (by decide)) (fun _ hk => hk.2) (.int .i64 3)) (fun _ hk => hk.2) (.bool false)) (fun _ hk => hk.2) (.int .i64 2)) (fun _ hk => hk.2) (.string t178)) (fun _ hk => hk.2) (.slice Ao19 y180.length co19)) (fun _ h_ => h_.1)))) k_ hk_), (Kd.freshB (g := zaiav) (o := .cells #[.int .i64 3, .bool false, .int .i64 2, .string t178, .slice Ao19 y180.length co19] 24 (0, 0)) (by (with_reducible repeat (first | refine zaiae ?_ _ | refine zaiag ?_ | refine zaiaf ?_ _)); refine blk_put (cs := #[.int .i64 3, .bool false, .int .i64 2, .string t178, .slice none 0 0]) ?_ 4 _ rfl; (with_reducible repeat (first | refine zaiae ?_ _ | refine zaiag ?_ | refine zaiaf ?_ _)); refine blk_put (cs := #[.int .i64 3, .bool false, .int .i64 2, .string (⟨#[]⟩ : ByteArray), .slice none 0 0]) ?_ 3 _ rfl; (with_reducible repeat (first | refine zaiae ?_ _ | refine zaiag ?_ | refine zaiaf ?_ _)); refine blk_put (cs := #[.int .i64 3, .bool false, .int .i64 0, .string (⟨#[]⟩ : ByteArray), .slice none 0 0]) ?_ 2 _ rfl; (with_reducible repeat (first | refine zaiae ?_ _ | refine zaiag ?_ | refine zaiaf ?_ _)); refine blk_put (cs := #[.int .i64 3, .bool false, .int .i64 0, .string (⟨#[]⟩ : ByteArray), .slice none 0 0]) ?_ 1 _ rfl; (with_reducible repeat (first | refine zaiae ?_ _ | refine zaiag ?_ | refine zaiaf ?_ _)); refine blk_put (cs := #[.int .i64 0, .bool false, .int .i64 0, .string (⟨#[]⟩ : ByteArray), .slice none 0 0]) ?_ 0 _ rfl; exact zbk zaiaw) k_ hk_)⟩)) (below_size (zh1 HB zaiaz))); have n2_ := zaiaq (blk_below (g := zaiav) (o := .cells #[.int .i64 3, .bool false, .int .i64 2, .string t178, .slice Ao19 y180.length co19] 24 (0, 0)) (by (with_reducible repeat (first | refine zaiae ?_ _ | refine zaiag ?_ | refine zaiaf ?_ _)); refine blk_put (cs := #[.int .i64 3, .bool false, .int .i64 2, .string t178, .slice none 0 0]) ?_ 4 _ rfl; (with_reducible repeat (first | refine zaiae ?_ _ | refine zaiag ?_ | refine zaiaf ?_ _)); refine blk_put (cs := #[.int .i64 3, .bool false, .int .i64 2, .string (⟨#[]⟩ : ByteArray), .slice none 0 0]) ?_ 3 _ rfl; (with_reducible repeat (first | refine zaiae ?_ _ | refine zaiag ?_ | refine zaiaf ?_ _)); refine blk_put (cs := #[.int .i64 3, .bool false, .int .i64 0, .string (⟨#[]⟩ : ByteArray), .slice none 0 0]) ?_ 2 _ rfl; (with_reducible repeat (first | refine zaiae ?_ _ | refine zaiag ?_ | refine zaiaf ?_ _)); refine blk_put (cs := #[.int .i64 3, .bool false, .int .i64 0, .string (⟨#[]⟩ : ByteArray), .slice none 0 0]) ?_ 1 _ rfl; (with_reducible repeat (first | refine zaiae ?_ _ | refine zaiag ?_ | refine zaiaf ?_ _)); refine blk_put (cs := #[.int .i64 0, .bool false, .int .i64 0, .string (⟨#[]⟩ : ByteArray), .slice none 0 0]) ?_ 0 _ rfl; exact zbk zaiaw) hb); have n3_ := zaiaq (below_step (zh1 HB zaiaz) hb); clear HO182; clear zaiaw; clear HB; have HO182 := n0_; have HO186 := n1_; have zaiaw := n2_; have HB := n3_; clear n0_ n1_ n2_ n3_; (try clear hb); (try clear hk); (try clear hi); (try clear ho0); obtain ⟨Ao23, co23, eo23⟩ := Kd.N_slice HO186.out; subst eo23) | ((with_reducible refine gate_callee (f := 16) rfl ?_); refine goesL_ (some 25) rfl rfl Try.func16 (by kernel_rfl) rfl #[.slice Ao23 t184.length co23, .agg #[.int .i64 5, .bool true, .int .i64 0, .string (⟨#[]⟩ : ByteArray), .slice none 0 0]] rfl (by (try simp only [zaian, zaiao, zaiap]); first | done | rfl) ?_; (refine (chain_Put.calls k _ _ t184 5 true 0 (⟨#[]⟩ : ByteArray) _ _ ([] : List (S72)) t188 t191 _ ?side1 ?side2 ?side3 ?side4 A4.out).mono ?_); (case side1 => repeat (first | exact (Kd.N_reads' HO186.out).2.2 | (with_reducible refine Kd.C_alloc ?_ _) | (with_reducible refine Kd.C_drewN ?_ _) | (with_reducible refine Kd.C_drew ?_))); (case side2 => exact (Kd.N_reads' HO186.out).2.1); (case side3 => exact Kd.C_nil _ _); (case side4 => exact Nat.le_refl _); rintro e w24 ⟨v189, rfl, ho0, hb⟩; refine ⟨_, rfl, ?_⟩; have n0_ := zaiaq (Kd.R_below (zrk HO182) hb); have n1_ := zaiaq (Kd.N_elder' (znk HO186) (by first | exact Kd.N_base ho0 | exact Kd.N_base (Kd.S_N ho0)) hb); have n2_ := zaiaq (Kd.N_lower (Kd.N_mono (ok' := fun k_ => some k_ ≠ (.slice Ao19 y180.length co19 : Value).ownBlock ∧ some k_ ≠ (.slice Ao23 t184.length co23 : Value).ownBlock ∧ k_ ≠ zaiav) ho0 (fun k_ hk_ => ⟨(Kd.fresh' (Kd.R_lt (zrk HO182)) k_ hk_), (Kd.fresh' (Kd.N_lt (znk HO186)) k_ hk_), (Kd.freshB (g := zaiav) (o := .cells #[.int .i64 3, .bool false, .int .i64 2, .string t178, .slice Ao19 y180.length co19] 24 (0, 0)) (zbk zaiaw) k_ hk_)⟩)) (below_size (zh1 HB zaiaz))); have n3_ := zbb zaiaw hb; have n4_ := zaiaq (below_step (zh1 HB zaiaz) hb); clear HO182; clear HO186; clear zaiaw; clear HB; have HO182 := n0_; have HO186 := n1_; have HO190 := n2_; have zaiaw := n3_; have HB := n4_; clear n0_ n1_ n2_ n3_ n4_; (try clear hb); (try clear hk); (try clear hi); (try clear ho0); obtain ⟨Ao25, co25, eo25⟩ := Kd.N_slice HO190.out; subst eo25) | ((with_reducible refine gate_callee (f := 24) rfl ?_); refine goesL_ (some 30) rfl rfl Try.func24 (by kernel_rfl) rfl #[.slice Ao25 t188.length co25] rfl (by (try simp only [zaian, zaiao, zaiap]); first | done | rfl) ?_; (with_reducible refine (chain_Latest.calls k _ _ t188 t192 t193 t194 t195 t196 t199 _ ?side1 ?side2 A5.out).mono ?_); (case side1 => repeat (first | exact (Kd.N_reads' HO190.out).2.2 | (with_reducible refine Kd.C_alloc ?_ _) | (with_reducible refine Kd.C_drewN ?_ _) | (with_reducible refine Kd.C_drew ?_))); (case side2 => exact (Kd.N_reads' HO190.out).2.1); rintro e w26 ⟨v197, rfl, ho0, hb⟩; refine ⟨_, rfl, ?_⟩; have n0_ := zaiaq (Kd.R_elder' (zrk HO182) (Kd.R_base ho0) hb); have n1_ := zaiaq (Kd.N_elder' (znk HO186) (Kd.R_base ho0) hb); have n2_ := zaiaq (Kd.N_elder' (znk HO190) (Kd.R_base ho0) hb); have n3_ := zaiaq (Kd.R_lower (Kd.R_new' ho0 (Kd.R_lt (zrk HO182))) (below_size (zh1 HB zaiaz))); have n4_ := zbb zaiaw hb; have n5_ := zaiaq (below_step (zh1 HB zaiaz) hb); clear HO182; clear HO186; clear HO190; clear zaiaw; clear HB; have HO182 := n0_; have HO186 := n1_; have HO190 := n2_; have HO198 := n3_; have zaiaw := n4_; have HB := n5_; clear n0_ n1_ n2_ n3_ n4_ n5_; (try clear hb); (try clear hk); (try clear hi); (try clear ho0)) | ((with_reducible refine gate_dst (N := 6) rfl ?_); (try (refine gate_guard (by rfl) ?_; dsimp only)); refine box_event ?hg (N := 6) ?hd (cs := #[.int .i64 0, .bool false, .int .i64 0, .string (⟨#[]⟩ : ByteArray), .slice none 0 0]) (t := 24) ?hr ?_; (case hd => rfl); (case hg => rfl); (case hr => first | (go_simp; done) | (go_simp; rfl)); intro zaias hg w27 hbox hb; have n0_ := zaiaq (Kd.R_below (zrk HO182) hb); have n1_ := zaiaq (Kd.N_below (Kd.N_elderB (znk HO186) zaias (Nat.le_of_eq hg.symm)) hb); have n2_ := zaiaq (Kd.N_below (Kd.N_elderB (znk HO190) zaias (Nat.le_of_eq hg.symm)) hb); have n3_ := zaiaq (Kd.R_below (zrk HO198) hb); have n4_ := zbb zaiaw hb; have n5_ := zaiaq (below_step (zh1 HB zaiaz) hb); have n6_ := zaiaq (hbox); have n7_ := zns hg (zh1 HB zaiaz); have n8_ := zns hg (zh1 HB zaiaz); have n9_ := zaiaq ((by rw [hg]; exact Nat.ne_of_lt (blk_lt (g := zaiav) (o := .cells #[.int .i64 3, .bool false, .int .i64 2, .string t178, .slice Ao19 y180.length co19] 24 (0, 0)) (zbk zaiaw)) : zaiav ≠ zaias)); have n10_ := zaiaq ((by rw [hg]; exact Nat.ne_of_gt (blk_lt (g := zaiav) (o := .cells #[.int .i64 3, .bool false, .int .i64 2, .string t178, .slice Ao19 y180.length co19] 24 (0, 0)) (zbk zaiaw)) : zaias ≠ zaiav)); clear HO182; clear HO186; clear HO190; clear HO198; clear zaiaw; clear HB; have HO182 := n0_; have HO186 := n1_; have HO190 := n2_; have HO198 := n3_; have zaiaw := n4_; have HB := n5_; have zaiax := n6_; have GW200 := n7_; have zaibe := n8_; have zaiay := n9_; have zaibh := n10_; clear n0_ n1_ n2_ n3_ n4_ n5_ n6_ n7_ n8_ n9_ n10_; clear hb hbox hg; have hnb28 := zaibh.out; have hnc28 := zaiay.out; have hcz29_0 : w27.cell? ⟨zaias, 0, none⟩ = some (.int .i64 0) := (zaial zaiax.out 0).trans rfl; have hcz29_1 : w27.cell? ⟨zaias, 1, none⟩ = some (.bool false) := (zaial zaiax.out 1).trans rfl; have hcz29_2 : w27.cell? ⟨zaias, 2, none⟩ = some (.int .i64 0) := (zaial zaiax.out 2).trans rfl; have hcz29_3 : w27.cell? ⟨zaias, 3, none⟩ = some (.string (⟨#[]⟩ : ByteArray)) := (zaial zaiax.out 3).trans rfl; have hcz29_4 : w27.cell? ⟨zaias, 4, none⟩ = some (.slice none 0 0) := (zaial zaiax.out 4).trans rfl; have hfz29_0 := zaiam zaiax.out 0; have hfz29_1 := zaiam zaiax.out 1; have hfz29_2 := zaiam zaiax.out 2; have hfz29_3 := zaiam zaiax.out 3; have hfz29_4 := zaiam zaiax.out 4; obtain ⟨Ao30, co30, eo30⟩ := Kd.R_slice HO198.out; subst eo30) | ((with_reducible refine gate_callee (f := 19) rfl ?_); refine goesL_ (some 35) rfl rfl Try.func19 (by kernel_rfl) rfl #[.slice Ao25 t188.length co25, .int .i64 5] rfl (by (try simp only [zaian, zaiao, zaiap]); first | done | rfl) ?_; (with_reducible refine (chain_Drop.calls k _ _ t188 5 t201 t204 _ ?side1 ?side2 A6.out).mono ?_); (case side1 => refine (Kd.N_reads' (e := 24) (base := w.heap.size) (ok := fun k_ => (((some k_ ≠ (.slice Ao19 y180.length co19 : Value).ownBlock ∧ (some k_ ≠ (.slice Ao23 t184.length co23 : Value).ownBlock ∧ k_ ≠ zaiav)) ∧ some k_ ≠ (.slice Ao30 t196.length co30 : Value).ownBlock) ∧ k_ ≠ zaias)) (n := t188.length) (c := co25) ?_).2.2; exact (by (with_reducible repeat (first | apply Kd.N_alloc | apply Kd.N_drewN | apply Kd.N_drew)); exact (Kd.N_mono (Kd.N_far (p := ⟨zaias, 4, none⟩) (Kd.N_far (p := ⟨zaias, 3, none⟩) (Kd.N_far (p := ⟨zaias, 2, none⟩) (Kd.N_far (p := ⟨zaias, 1, none⟩) (Kd.N_far (p := ⟨zaias, 0, none⟩) (Kd.N_mono HO190.out (fun k_ hk => (⟨hk, hk.2⟩ : _ ∧ k_ ≠ zaias))) (fun _ hk => hk.2) (.int .i64 t192)) (fun _ hk => hk.2) (.bool t193)) (fun _ hk => hk.2) (.int .i64 t194)) (fun _ hk => hk.2) (.string t195)) (fun _ hk => hk.2) (.slice Ao30 t196.length co30)) (fun _ h_ => h_.1)))); (case side2 => exact (Kd.N_reads' HO190.out).2.1); rintro e w31 ⟨v202, rfl, ho0, hb⟩; refine ⟨_, rfl, ?_⟩; have n0_ := zaiaq (Kd.R_below (by (with_reducible repeat (first | apply Kd.R_alloc | apply Kd.R_drewN | apply Kd.R_drew)); exact (Kd.R_mono (Kd.R_far (p := ⟨zaias, 4, none⟩) (Kd.R_far (p := ⟨zaias, 3, none⟩) (Kd.R_far (p := ⟨zaias, 2, none⟩) (Kd.R_far (p := ⟨zaias, 1, none⟩) (Kd.R_far (p := ⟨zaias, 0, none⟩) (Kd.R_types HO182.out zaiax.out (by decide)) (fun _ hk => hk.2) (.int .i64 t192)) (fun _ hk => hk.2) (.bool t193)) (fun _ hk => hk.2) (.int .i64 t194)) (fun _ hk => hk.2) (.string t195)) (fun _ hk => hk.2) (.slice Ao30 t196.length co30)) (fun _ h_ => h_.1))) hb); have n1_ := zaiaq (Kd.N_below (by (with_reducible repeat (first | apply Kd.N_alloc | apply Kd.N_drewN | apply Kd.N_drew)); exact (Kd.N_mono (Kd.N_far (p := ⟨zaias, 4, none⟩) (Kd.N_far (p := ⟨zaias, 3, none⟩) (Kd.N_far (p := ⟨zaias, 2, none⟩) (Kd.N_far (p := ⟨zaias, 1, none⟩) (Kd.N_far (p := ⟨zaias, 0, none⟩) (Kd.N_mono HO186.out (fun k_ hk => (⟨hk, hk.2⟩ : _ ∧ k_ ≠ zaias))) (fun _ hk => hk.2) (.int .i64 t192)) (fun _ hk => hk.2) (.bool t193)) (fun _ hk => hk.2) (.int .i64 t194)) (fun _ hk => hk.2) (.string t195)) (fun _ hk => hk.2) (.slice Ao30 t196.length co30)) (fun _ h_ => h_.1))) hb); have n2_ := zaiaq (Kd.N_below (by (with_reducible repeat (first | apply Kd.N_alloc | apply Kd.N_drewN | apply Kd.N_drew)); exact (Kd.N_mono (Kd.N_far (p := ⟨zaias, 4, none⟩) (Kd.N_far (p := ⟨zaias, 3, none⟩) (Kd.N_far (p := ⟨zaias, 2, none⟩) (Kd.N_far (p := ⟨zaias, 1, none⟩) (Kd.N_far (p := ⟨zaias, 0, none⟩) (Kd.N_mono HO190.out (fun k_ hk => (⟨hk, hk.2⟩ : _ ∧ k_ ≠ zaias))) (fun _ hk => hk.2) (.int .i64 t192)) (fun _ hk => hk.2) (.bool t193)) (fun _ hk => hk.2) (.int .i64 t194)) (fun _ hk => hk.2) (.string t195)) (fun _ hk => hk.2) (.slice Ao30 t196.length co30)) (fun _ h_ => h_.1))) hb); have n3_ := zaiaq (Kd.R_below (by (with_reducible repeat (first | apply Kd.R_alloc | apply Kd.R_drewN | apply Kd.R_drew)); exact (Kd.R_mono (Kd.R_far (p := ⟨zaias, 4, none⟩) (Kd.R_far (p := ⟨zaias, 3, none⟩) (Kd.R_far (p := ⟨zaias, 2, none⟩) (Kd.R_far (p := ⟨zaias, 1, none⟩) (Kd.R_far (p := ⟨zaias, 0, none⟩) (Kd.R_types HO198.out zaiax.out (by decide)) (fun _ hk => hk.2) (.int .i64 t192)) (fun _ hk => hk.2) (.bool t193)) (fun _ hk => hk.2) (.int .i64 t194)) (fun _ hk => hk.2) (.string t195)) (fun _ hk => hk.2) (.slice Ao30 t196.length co30)) (fun _ h_ => h_.1))) hb); have n4_ := zaiaq (Kd.V_lower (Kd.V_mono (ok' := fun k_ => some k_ ≠ (.slice Ao19 y180.length co19 : Value).ownBlock ∧ some k_ ≠ (.slice Ao23 t184.length co23 : Value).ownBlock ∧ some k_ ≠ (.slice Ao25 t188.length co25 : Value).ownBlock ∧ some k_ ≠ (.slice Ao30 t196.length co30 : Value).ownBlock ∧ k_ ≠ zaiav ∧ k_ ≠ zaias) ho0 (fun k_ hk_ => ⟨(Kd.fresh' (Kd.R_lt (by (with_reducible repeat (first | apply Kd.R_alloc | apply Kd.R_drewN | apply Kd.R_drew)); exact (Kd.R_mono (Kd.R_far (p := ⟨zaias, 4, none⟩) (Kd.R_far (p := ⟨zaias, 3, none⟩) (Kd.R_far (p := ⟨zaias, 2, none⟩) (Kd.R_far (p := ⟨zaias, 1, none⟩) (Kd.R_far (p := ⟨zaias, 0, none⟩) (Kd.R_types HO182.out zaiax.out (by decide)) (fun _ hk => hk.2) (.int .i64 t192)) (fun _ hk => hk.2) (.bool t193)) (fun _ hk => hk.2) (.int .i64 t194)) (fun _ hk => hk.2) (.string t195)) (fun _ hk => hk.2) (.slice Ao30 t196.length co30)) (fun _ h_ => h_.1)))) k_ hk_), (Kd.fresh' (Kd.N_lt (by (with_reducible repeat (first | apply Kd.N_alloc | apply Kd.N_drewN | apply Kd.N_drew)); exact (Kd.N_mono (Kd.N_far (p := ⟨zaias, 4, none⟩) (Kd.N_far (p := ⟨zaias, 3, none⟩) (Kd.N_far (p := ⟨zaias, 2, none⟩) (Kd.N_far (p := ⟨zaias, 1, none⟩) (Kd.N_far (p := ⟨zaias, 0, none⟩) (Kd.N_mono HO186.out (fun k_ hk => (⟨hk, hk.2⟩ : _ ∧ k_ ≠ zaias))) (fun _ hk => hk.2) (.int .i64 t192)) (fun _ hk => hk.2) (.bool t193)) (fun _ hk => hk.2) (.int .i64 t194)) (fun _ hk => hk.2) (.string t195)) (fun _ hk => hk.2) (.slice Ao30 t196.length co30)) (fun _ h_ => h_.1)))) k_ hk_), (Kd.fresh' (Kd.N_lt (by (with_reducible repeat (first | apply Kd.N_alloc | apply Kd.N_drewN | apply Kd.N_drew)); exact (Kd.N_mono (Kd.N_far (p := ⟨zaias, 4, none⟩) (Kd.N_far (p := ⟨zaias, 3, none⟩) (Kd.N_far (p := ⟨zaias, 2, none⟩) (Kd.N_far (p := ⟨zaias, 1, none⟩) (Kd.N_far (p := ⟨zaias, 0, none⟩) (Kd.N_mono HO190.out (fun k_ hk => (⟨hk, hk.2⟩ : _ ∧ k_ ≠ zaias))) (fun _ hk => hk.2) (.int .i64 t192)) (fun _ hk => hk.2) (.bool t193)) (fun _ hk => hk.2) (.int .i64 t194)) (fun _ hk => hk.2) (.string t195)) (fun _ hk => hk.2) (.slice Ao30 t196.length co30)) (fun _ h_ => h_.1)))) k_ hk_), (Kd.fresh' (Kd.R_lt (by (with_reducible repeat (first | apply Kd.R_alloc | apply Kd.R_drewN | apply Kd.R_drew)); exact (Kd.R_mono (Kd.R_far (p := ⟨zaias, 4, none⟩) (Kd.R_far (p := ⟨zaias, 3, none⟩) (Kd.R_far (p := ⟨zaias, 2, none⟩) (Kd.R_far (p := ⟨zaias, 1, none⟩) (Kd.R_far (p := ⟨zaias, 0, none⟩) (Kd.R_types HO198.out zaiax.out (by decide)) (fun _ hk => hk.2) (.int .i64 t192)) (fun _ hk => hk.2) (.bool t193)) (fun _ hk => hk.2) (.int .i64 t194)) (fun _ hk => hk.2) (.string t195)) (fun _ hk => hk.2) (.slice Ao30 t196.length co30)) (fun _ h_ => h_.1)))) k_ hk_), (Kd.freshB (g := zaiav) (o := .cells #[.int .i64 3, .bool false, .int .i64 2, .string t178, .slice Ao19 y180.length co19] 24 (0, 0)) (by (iterate 5 ((with_reducible repeat (first | refine zaiae ?_ _ | refine zaiag ?_ | refine zaiaf ?_ _)); refine blk_far ?_ zaiay.out _)); exact zbk zaiaw) k_ hk_), (Kd.freshB (g := zaias) (o := .cells #[.int .i64 t192, .bool t193, .int .i64 t194, .string t195, .slice Ao30 t196.length co30] 24 (0, 0)) (by (with_reducible repeat (first | refine zaiae ?_ _ | refine zaiag ?_ | refine zaiaf ?_ _)); refine blk_put (cs := #[.int .i64 t192, .bool t193, .int .i64 t194, .string t195, .slice none 0 0]) ?_ 4 _ rfl; (with_reducible repeat (first | refine zaiae ?_ _ | refine zaiag ?_ | refine zaiaf ?_ _)); refine blk_put (cs := #[.int .i64 t192, .bool t193, .int .i64 t194, .string (⟨#[]⟩ : ByteArray), .slice none 0 0]) ?_ 3 _ rfl; (with_reducible repeat (first | refine zaiae ?_ _ | refine zaiag ?_ | refine zaiaf ?_ _)); refine blk_put (cs := #[.int .i64 t192, .bool t193, .int .i64 0, .string (⟨#[]⟩ : ByteArray), .slice none 0 0]) ?_ 2 _ rfl; (with_reducible repeat (first | refine zaiae ?_ _ | refine zaiag ?_ | refine zaiaf ?_ _)); refine blk_put (cs := #[.int .i64 t192, .bool false, .int .i64 0, .string (⟨#[]⟩ : ByteArray), .slice none 0 0]) ?_ 1 _ rfl; (with_reducible repeat (first | refine zaiae ?_ _ | refine zaiag ?_ | refine zaiaf ?_ _)); refine blk_put (cs := #[.int .i64 0, .bool false, .int .i64 0, .string (⟨#[]⟩ : ByteArray), .slice none 0 0]) ?_ 0 _ rfl; exact zbk zaiax) k_ hk_)⟩)) (below_size (zh2 HB zaiaz zaibe))); have n5_ := zaiaq (blk_below (g := zaiav) (o := .cells #[.int .i64 3, .bool false, .int .i64 2, .string t178, .slice Ao19 y180.length co19] 24 (0, 0)) (by (iterate 5 ((with_reducible repeat (first | refine zaiae ?_ _ | refine zaiag ?_ | refine zaiaf ?_ _)); refine blk_far ?_ zaiay.out _)); exact zbk zaiaw) hb); have n6_ := zaiaq (blk_below (g := zaias) (o := .cells #[.int .i64 t192, .bool t193, .int .i64 t194, .string t195, .slice Ao30 t196.length co30] 24 (0, 0)) (by (with_reducible repeat (first | refine zaiae ?_ _ | refine zaiag ?_ | refine zaiaf ?_ _)); refine blk_put (cs := #[.int .i64 t192, .bool t193, .int .i64 t194, .string t195, .slice none 0 0]) ?_ 4 _ rfl; (with_reducible repeat (first | refine zaiae ?_ _ | refine zaiag ?_ | refine zaiaf ?_ _)); refine blk_put (cs := #[.int .i64 t192, .bool t193, .int .i64 t194, .string (⟨#[]⟩ : ByteArray), .slice none 0 0]) ?_ 3 _ rfl; (with_reducible repeat (first | refine zaiae ?_ _ | refine zaiag ?_ | refine zaiaf ?_ _)); refine blk_put (cs := #[.int .i64 t192, .bool t193, .int .i64 0, .string (⟨#[]⟩ : ByteArray), .slice none 0 0]) ?_ 2 _ rfl; (with_reducible repeat (first | refine zaiae ?_ _ | refine zaiag ?_ | refine zaiaf ?_ _)); refine blk_put (cs := #[.int .i64 t192, .bool false, .int .i64 0, .string (⟨#[]⟩ : ByteArray), .slice none 0 0]) ?_ 1 _ rfl; (with_reducible repeat (first | refine zaiae ?_ _ | refine zaiag ?_ | refine zaiaf ?_ _)); refine blk_put (cs := #[.int .i64 0, .bool false, .int .i64 0, .string (⟨#[]⟩ : ByteArray), .slice none 0 0]) ?_ 0 _ rfl; exact zbk zaiax) hb); have n7_ := zaiaq (below_step (zh2 HB zaiaz zaibe) hb); clear HO182; clear HO186; clear HO190; clear HO198; clear zaiaw; clear zaiax; clear HB; have HO182 := n0_; have HO186 := n1_; have HO190 := n2_; have HO198 := n3_; have HO203 := n4_; have zaiaw := n5_; have zaiax := n6_; have HB := n7_; clear n0_ n1_ n2_ n3_ n4_ n5_ n6_ n7_; (try clear hb); (try clear hk); (try clear hi); (try clear ho0); obtain ⟨Ao32, co32, eo32⟩ := Kd.V_slice HO203.out; subst eo32) | ((with_reducible refine gate_callee (f := 24) rfl ?_); refine goesL_ (some 40) rfl rfl Try.func24 (by kernel_rfl) rfl #[.slice Ao32 t201.length co32] rfl (by (try simp only [zaian, zaiao, zaiap]); first | done | rfl) ?_; (with_reducible refine (chain_Latest.calls k _ _ t201 t205 t206 t207 t208 t209 t212 _ ?side1 ?side2 A7.out).mono ?_); (case side1 => repeat (first | exact (Kd.V_reads' HO203.out).2.2 | (with_reducible refine Kd.C_alloc ?_ _) | (with_reducible refine Kd.C_drewN ?_ _) | (with_reducible refine Kd.C_drew ?_))); (case side2 => exact (Kd.V_reads' HO203.out).2.1); rintro e w33 ⟨v210, rfl, ho0, hb⟩; refine ⟨_, rfl, ?_⟩; have n0_ := zaiaq (Kd.R_elder' (zrk HO182) (Kd.R_base ho0) hb); have n1_ := zaiaq (Kd.N_elder' (znk HO186) (Kd.R_base ho0) hb); have n2_ := zaiaq (Kd.N_elder' (znk HO190) (Kd.R_base ho0) hb); have n3_ := zaiaq (Kd.R_elder' (zrk HO198) (Kd.R_base ho0) hb); have n4_ := zaiaq (Kd.V_elder' (zvk HO203) (Kd.R_base ho0) hb); have n5_ := zaiaq (Kd.R_lower (Kd.R_new' (Kd.R_new' ho0 (Kd.R_lt (zrk HO182))) (Kd.R_lt (zrk HO198))) (below_size (zh2 HB zaiaz zaibe))); have n6_ := zbb zaiaw hb; have n7_ := zbb zaiax hb; have n8_ := zaiaq (below_step (zh2 HB zaiaz zaibe) hb); clear HO182; clear HO186; clear HO190; clear HO198; clear HO203; clear zaiaw; clear zaiax; clear HB; have HO182 := n0_; have HO186 := n1_; have HO190 := n2_; have HO198 := n3_; have HO203 := n4_; have HO211 := n5_; have zaiaw := n6_; have zaiax := n7_; have HB := n8_; clear n0_ n1_ n2_ n3_ n4_ n5_ n6_ n7_ n8_; (try clear hb); (try clear hk); (try clear hi); (try clear ho0)) | ((with_reducible refine gate_dst (N := 10) rfl ?_); (try (refine gate_guard (by rfl) ?_; dsimp only)); refine box_event ?hg (N := 10) ?hd (cs := #[.int .i64 0, .bool false, .int .i64 0, .string (⟨#[]⟩ : ByteArray), .slice none 0 0]) (t := 24) ?hr ?_; (case hd => rfl); (case hg => rfl); (case hr => first | (go_simp; done) | (go_simp; rfl)); intro zaibb hg w34 hbox hb; have n0_ := zaiaq (Kd.R_below (zrk HO182) hb); have n1_ := zaiaq (Kd.N_below (Kd.N_elderB (znk HO186) zaibb (Nat.le_of_eq hg.symm)) hb); have n2_ := zaiaq (Kd.N_below (Kd.N_elderB (znk HO190) zaibb (Nat.le_of_eq hg.symm)) hb); have n3_ := zaiaq (Kd.R_below (zrk HO198) hb); have n4_ := zaiaq (Kd.V_below (Kd.V_elderB (zvk HO203) zaibb (Nat.le_of_eq hg.symm)) hb); have n5_ := zaiaq (Kd.R_below (zrk HO211) hb); have n6_ := zbb zaiaw hb; have n7_ := zbb zaiax hb; have n8_ := zaiaq (below_step (zh2 HB zaiaz zaibe) hb); have n9_ := zaiaq (hbox); have n10_ := zns hg (zh2 HB zaiaz zaibe); have n11_ := zns hg (zh2 HB zaiaz zaibe); have n12_ := zaiaq ((by rw [hg]; exact Nat.ne_of_lt (blk_lt (g := zaiav) (o := .cells #[.int .i64 3, .bool false, .int .i64 2, .string t178, .slice Ao19 y180.length co19] 24 (0, 0)) (zbk zaiaw)) : zaiav ≠ zaibb)); have n13_ := zaiaq ((by rw [hg]; exact Nat.ne_of_gt (blk_lt (g := zaiav) (o := .cells #[.int .i64 3, .bool false, .int .i64 2, .string t178, .slice Ao19 y180.length co19] 24 (0, 0)) (zbk zaiaw)) : zaibb ≠ zaiav)); have n14_ := zaiaq ((by rw [hg]; exact Nat.ne_of_lt (blk_lt (g := zaias) (o := .cells #[.int .i64 t192, .bool t193, .int .i64 t194, .string t195, .slice Ao30 t196.length co30] 24 (0, 0)) (zbk zaiax)) : zaias ≠ zaibb)); have n15_ := zaiaq ((by rw [hg]; exact Nat.ne_of_gt (blk_lt (g := zaias) (o := .cells #[.int .i64 t192, .bool t193, .int .i64 t194, .string t195, .slice Ao30 t196.length co30] 24 (0, 0)) (zbk zaiax)) : zaibb ≠ zaias)); clear HO182; clear HO186; clear HO190; clear HO198; clear HO203; clear HO211; clear zaiaw; clear zaiax; clear HB; have HO182 := n0_; have HO186 := n1_; have HO190 := n2_; have HO198 := n3_; have HO203 := n4_; have HO211 := n5_; have zaiaw := n6_; have zaiax := n7_; have HB := n8_; have zaibd := n9_; have GW213 := n10_; have zaibm := n11_; have zaibi := n12_; have zaibj := n13_; have zaibk := n14_; have zaibl := n15_; clear n0_ n1_ n2_ n3_ n4_ n5_ n6_ n7_ n8_ n9_ n10_ n11_ n12_ n13_ n14_ n15_; clear hb hbox hg; have hnb35 := zaibj.out; have hnc35 := zaibi.out; have hnb36 := zaibl.out; have hnc36 := zaibk.out; have hcz37_0 : w34.cell? ⟨zaibb, 0, none⟩ = some (.int .i64 0) := (zaial zaibd.out 0).trans rfl; have hcz37_1 : w34.cell? ⟨zaibb, 1, none⟩ = some (.bool false) := (zaial zaibd.out 1).trans rfl; have hcz37_2 : w34.cell? ⟨zaibb, 2, none⟩ = some (.int .i64 0) := (zaial zaibd.out 2).trans rfl; have hcz37_3 : w34.cell? ⟨zaibb, 3, none⟩ = some (.string (⟨#[]⟩ : ByteArray)) := (zaial zaibd.out 3).trans rfl; have hcz37_4 : w34.cell? ⟨zaibb, 4, none⟩ = some (.slice none 0 0) := (zaial zaibd.out 4).trans rfl; have hfz37_0 := zaiam zaibd.out 0; have hfz37_1 := zaiam zaibd.out 1; have hfz37_2 := zaiam zaibd.out 2; have hfz37_3 := zaiam zaibd.out 3; have hfz37_4 := zaiam zaibd.out 4; obtain ⟨Ao38, co38, eo38⟩ := Kd.R_slice HO211.out; subst eo38))
        go_ret
        exact ⟨by first | rfl | (simp [errW_none, errW_some] <;> rfl) | (simp [*, errW_none, errW_some] <;> rfl), zh3 HB zaiaz zaibe zaibm⟩
       ·rw [if_neg c14] at H
        have c14b0 : (t207 == 2) = false := beq_eq_false_iff_ne.mpr c14
        have c14b1 : (t207 != 2) = true := bne_iff_ne.mpr c14
        exact absurd ((Option.some.inj H).trans HTR.out) Bool.false_ne_true
      ·rw [if_neg c13] at H
       have c13b0 : (t205 == 3) = false := beq_eq_false_iff_ne.mpr c13
       have c13b1 : (t205 != 3) = true := bne_iff_ne.mpr c13
       exact absurd ((Option.some.inj H).trans HTR.out) Bool.false_ne_true
     ·rw [if_neg c12] at H
      have c12b0 : (t212 == 0) = false := beq_eq_false_iff_ne.mpr c12
      have c12b1 : (t212 != 0) = true := bne_iff_ne.mpr c12
      exact absurd ((Option.some.inj H).trans HTR.out) Bool.false_ne_true
    ·rw [if_neg c11] at H
     have c11b0 : (t204 == 0) = false := beq_eq_false_iff_ne.mpr c11
     have c11b1 : (t204 != 0) = true := bne_iff_ne.mpr c11
     exact absurd ((Option.some.inj H).trans HTR.out) Bool.false_ne_true
   ·rw [if_neg c10] at H
    have c10b0 : (t199 == 130) = false := beq_eq_false_iff_ne.mpr c10
    have c10b1 : (t199 != 130) = true := bne_iff_ne.mpr c10
    exact absurd ((Option.some.inj H).trans HTR.out) Bool.false_ne_true
  ·rw [if_neg c9] at H
   have c9b0 : (t191 == 0) = false := beq_eq_false_iff_ne.mpr c9
   have c9b1 : (t191 != 0) = true := bne_iff_ne.mpr c9
   exact absurd ((Option.some.inj H).trans HTR.out) Bool.false_ne_true
 ·rw [if_neg c8] at H
  have c8b0 : (t187 == 0) = false := beq_eq_false_iff_ne.mpr c8
  have c8b1 : (t187 != 0) = true := bne_iff_ne.mpr c8
  exact absurd ((Option.some.inj H).trans HTR.out) Bool.false_ne_true
end Go.Proofs.Ytmpnaaegahjfkaa.Q