

/- Written by a program of this session (wip/patch_print.py over the kit's print): functions of the given program as plain Lean functions, and that each call does what its function says, under no further conditions. -/
import Derived.Test.YtmpnaaegahjfkaaQx0
namespace Go.Proofs.Ytmpnaaegahjfkaa.Q
open Go.RowKit Go.Proofs.YtmpnaaegahjfkaaW.PrintWords Go.Proofs.YtmpnaaegahjfkaaW.PrintLast Go.Proofs.YtmpnaaegahjfkaaW.PrintMore
attribute [local go_sem] max2_int min2_int max_two min_two max_three min_three max_four min_four   -- for this text's walks alone
set_option linter.unusedVariables false
set_option linter.unusedSimpArgs false
attribute [local go_sem] xor_ones_u8 xor_ones_u16 xor_ones_u32 xor_ones_u64 cell_twice frozen_twice
abbrev zagaa := @blk_drewN
abbrev zagab := @blk_alloc
abbrev zagac := @blk_drew
abbrev zagad := @below_set
abbrev zagae := @pw_below_drewN
abbrev zagaf := @below_drew1
abbrev zagag := @below_alloc
abbrev zagah := @blk_cell
abbrev zagai := @blk_frozen
abbrev zagaj := @Aside0.mk
def api_Piece.f (l0 : List S72) : Option (List S72) := if l0.length < 5000000000000 then some l0 else none
structure Halt (p : Prop) : Prop where mk :: (out : p)
set_option maxHeartbeats 8000000 in
set_option maxRecDepth 100000 in
theorem k72_KM {w : World} {base : Nat} {ok : Nat → Prop} {x : S72} {cs : List Value} {w' : World} (h : k72.K w x cs) : k72.M w' base ok x cs := by
 rw [k72_open h]
 exact ⟨[.string x.f0], [.int .i64 x.f1], rfl, rfl, rfl⟩
set_option maxHeartbeats 8000000 in
set_option maxRecDepth 100000 in
theorem api_Piece.calls (A0 : Option Addr) (c0 : Nat) (l0 : List S72) (r : List S72) (w : World) (hr0 : Kd.C k72 w A0 l0.length l0) (hc0 : l0.length ≤ c0) (h : api_Piece.f l0 = some r) :
  Calls Try.prog 58 #[.slice A0 l0.length c0] w fun e w' => ∃ v0_ : Value, e = .returned (v0_) ∧ Kd.R k72 72 w' w.heap.size (fun _ => True) v0_ r ∧ Below w.heap.size w w' := by
 unfold api_Piece.f at h
 by_cases hb : l0.length < 5000000000000
 case neg => rw [if_neg hb] at h; exact absurd h (by simp)
 rw [if_pos hb] at h
 obtain rfl := Option.some.inj h
 have HR := zagaj hr0
 have HL := zagaj hb
 clear h hb hc0
 rcases A0 with _ | ad
 ·have h0 : l0.length = 0 := by
   rcases Nat.eq_zero_or_pos l0.length with h | h
   ·exact h
   ·obtain ⟨ad, e, _⟩ := hr0.2.2 h
    cases e
  obtain rfl : l0 = [] := List.eq_nil_of_length_eq_zero h0
  clear hr0 h0
  go_enter Try.func58, Try.ntmps58
  go_wp2_with ((with_reducible refine gate_dst (N := 4) rfl ?_); refine Halt.out ?_)
  refine ⟨?_⟩
  refine Kd.event_run (v := .bool true) (w1 := w) rfl ?hr ?_
  case hr => first | (go_simp; done) | (go_simp; rfl)
  go_wp2
  go_ret
  exact ⟨_, rfl, Kd.R_nil _ _ _ _ _, Below.refl _ _⟩
 ·clear hr0
  go_enter Try.func58, Try.ntmps58
  go_wp2_with ((with_reducible refine gate_dst (N := 4) rfl ?_); refine Halt.out ?_)
  refine ⟨?_⟩
  refine Kd.event_run (v := .bool false) (w1 := w) rfl ?hr ?_
  case hr => first | (go_simp; done) | (go_simp; rfl)
  go_wp2_with ((with_reducible refine gate_dst (N := 5) rfl ?_); refine Halt.out ?_)
  refine ⟨?_⟩
  refine Kd.R_lit k72 (w0 := w) w.heap.size 72 rfl (N := 5) rfl (xs := []) (inner := []) (ok := fun _ => True) (okp := fun _ => True) ?hq ?hp (fun _ hk => hk) trivial (Below.refl _ _) (Nat.le_refl _) (by simp) ?_
  case hq => first | (go_simp; done) | (go_simp; rfl)
  case hp => exact ⟨by simp, fun j p h => by simp at h⟩
  intro v1 w1 hR hB _ _
  have R1 := zagaj hR
  have B1 := zagaj hB
  clear hR hB
  go_wp2_with ((with_reducible refine gate_dst (N := 7) rfl ?_); refine Halt.out ?_)
  refine ⟨?_⟩
  refine Kd.R_append_rows k72 (Rr := k72.K w1) (w0 := w) w.heap.size rfl (.tmp 5) (.tmp 6) 22 72 (.agg #[(.string ⟨#[]⟩), (.int .i64 0)]) 24 rfl Try.underlying22 info72 rfl (by decide) (by decide) v1 [] l0 (some ad) l0.length c0 (fun _ => True) (fun _ => False) ?e1 ?e2 R1.out (Kd.C_below HR.out B1.out) (fun x cs h => k72_KM h) (fun _ h => h.elim) (fun _ _ => trivial) B1.out B1.out.size (by have := HL.out; simp only [List.length_nil]; omega) ?_
  case e1 => rfl
  case e2 => rfl
  intro v2 w2 hR hB _ _
  rw [List.nil_append] at hR
  have R2 := zagaj hR
  have B2 := zagaj hB
  clear hR hB
  go_wp2
  go_ret
  exact ⟨_, rfl, R2.out, B2.out⟩

/-! ### chain_own: function 38 -/
def chain_own.f (a0_0 : Int) (a0_1 : Bool) (a0_2 : Int) (a0_3 : ByteArray) (l0_4 : List (S72)) : Option (Int × Bool × Int × ByteArray × (List (S72))) := (api_Piece.f l0_4).bind fun t128 => (some (a0_0, a0_1, a0_2, a0_3, t128))
set_option maxHeartbeats 8000000 in
set_option maxRecDepth 100000 in
theorem chain_own.calls (a0_0 : Int) (a0_1 : Bool) (a0_2 : Int) (a0_3 : ByteArray) (A0_4 : Option Addr) (c0_4 : Nat) (l0_4 : List (S72)) (r1 : Int) (r2 : Bool) (r3 : Int) (r4 : ByteArray) (r5 : List (S72)) (w : World) (hr0_4 : Kd.C k72 w A0_4 l0_4.length l0_4) (hc0_4 : l0_4.length ≤ c0_4) (h : chain_own.f a0_0 a0_1 a0_2 a0_3 l0_4 = some (r1, r2, r3, r4, r5)) :
  Calls Try.prog 38 #[.agg #[.int .i64 a0_0, .bool a0_1, .int .i64 a0_2, .string a0_3, .slice A0_4 l0_4.length c0_4]] w fun e w' => ∃ v4_ : Value, e = .returned (.agg #[.int .i64 r1, .bool r2, .int .i64 r3, .string r4, v4_]) ∧ Kd.R k72 72 w' w.heap.size (fun _ => True) v4_ r5 ∧ Below w.heap.size w w' := by
 have hu24 := Try.underlying24
 have HR0_4 := zagaj hr0_4
 have HC0_4 := zagaj hc0_4
 clear hr0_4 hc0_4
 have HB := zagaj (Below.refl w.heap.size w)
 have H : ((api_Piece.f l0_4).bind fun t128 => (some (a0_0, a0_1, a0_2, a0_3, t128))) = some (r1, r2, r3, r4, r5) := h
 clear h
 replace H := Option.bind_eq_some_iff.mp H
 obtain ⟨t128, A20, H⟩ := H
 replace H : (some (a0_0, a0_1, a0_2, a0_3, t128)) = some (r1, r2, r3, r4, r5) := H
 have A2 := zagaj A20
 clear A20
 simp only [Option.some.injEq, Prod.mk.injEq] at H
 obtain ⟨rfl, rfl, rfl, rfl, rfl⟩ := H
 go_enter Try.func38, Try.ntmps38
 go_wp2_with (first | ((with_reducible refine gate_dst (N := 1) rfl ?_); refine box_event ?hg (N := 1) ?hd (cs := #[.int .i64 a0_0, .bool a0_1, .int .i64 a0_2, .string a0_3, .slice A0_4 l0_4.length c0_4]) (t := 24) ?hr ?_; (case hd => rfl); (case hg => rfl); (case hr => first | (go_simp; done) | (go_simp; rfl)); intro zagan hg w3 hbox hb; have n0_ := zagaj (below_step (zh0 HB) hb); have n1_ := zagaj (hbox); have n2_ := zns hg (zh0 HB); have n3_ := zns hg (zh0 HB); clear HB; have HB := n0_; have zagal := n1_; have zagcl := n2_; have zagas := n3_; clear n0_ n1_ n2_ n3_; clear hb hbox hg) | ((with_reducible refine gate_dst (N := 2) rfl ?_); refine box_event ?hg (N := 2) ?hd (cs := #[.int .i64 0, .bool false, .int .i64 0, .string (⟨#[]⟩ : ByteArray), .slice none 0 0]) (t := 24) ?hr ?_; (case hd => rfl); (case hg => rfl); (case hr => first | (go_simp; done) | (go_simp; rfl)); intro zagap hg w4 hbox hb; have n0_ := zbb zagal hb; have n1_ := zagaj (below_step (zh1 HB zagas) hb); have n2_ := zagaj (hbox); have n3_ := zns hg (zh1 HB zagas); have n4_ := zns hg (zh1 HB zagas); have n5_ := zagaj ((by rw [hg]; exact Nat.ne_of_lt (blk_lt (g := zagan) (o := .cells #[.int .i64 a0_0, .bool a0_1, .int .i64 a0_2, .string a0_3, .slice A0_4 l0_4.length c0_4] 24 (0, 0)) (zbk zagal)) : zagan ≠ zagap)); have n6_ := zagaj ((by rw [hg]; exact Nat.ne_of_gt (blk_lt (g := zagan) (o := .cells #[.int .i64 a0_0, .bool a0_1, .int .i64 a0_2, .string a0_3, .slice A0_4 l0_4.length c0_4] 24 (0, 0)) (zbk zagal)) : zagap ≠ zagan)); clear zagal; clear HB; have zagal := n0_; have HB := n1_; have zagaq := n2_; have zagcm := n3_; have zagav := n4_; have zagaw := n5_; have zagau := n6_; clear n0_ n1_ n2_ n3_ n4_ n5_ n6_; clear hb hbox hg; have hnb5 := zagaw.out; have hnc5 := zagau.out; have zagbh : w4.cell? ⟨zagan, 0, none⟩ = some (.int .i64 a0_0) := (zagah zagal.out 0).trans rfl; have zagbi : w4.cell? ⟨zagan, 1, none⟩ = some (.bool a0_1) := (zagah zagal.out 1).trans rfl; have zagbj : w4.cell? ⟨zagan, 2, none⟩ = some (.int .i64 a0_2) := (zagah zagal.out 2).trans rfl; have zagbk : w4.cell? ⟨zagan, 3, none⟩ = some (.string a0_3) := (zagah zagal.out 3).trans rfl; have zagbl : w4.cell? ⟨zagan, 4, none⟩ = some (.slice A0_4 l0_4.length c0_4) := (zagah zagal.out 4).trans rfl; have zagbm := zagai zagal.out 0; have zagbn := zagai zagal.out 1; have zagbo := zagai zagal.out 2; have zagbp := zagai zagal.out 3; have zagbq := zagai zagal.out 4) | ((with_reducible refine gate_callee (f := 58) rfl ?_); refine goesL_ (some 5) rfl rfl Try.func58 (by kernel_rfl) rfl #[.slice A0_4 l0_4.length c0_4] rfl (by (try simp only [List.map_toArray, List.map_cons, List.map_nil]); first | done | rfl) ?_; (with_reducible refine (api_Piece.calls _ _ l0_4 t128 _ ?side1 ?side2 A2.out).mono ?_); (case side1 => repeat (first | exact (Kd.C_below HR0_4.out HB.out) | (with_reducible refine Kd.C_alloc ?_ _) | (with_reducible refine Kd.C_drewN ?_ _) | (with_reducible refine Kd.C_drew ?_))); (case side2 => exact HC0_4.out); rintro e w7 ⟨v129, rfl, ho0, hb⟩; refine ⟨_, rfl, ?_⟩; have n0_ := zagaj (Kd.R_lower ho0 (below_size (zh2 HB zagas zagav))); have n1_ := zbb zagal hb; have n2_ := zbb zagaq hb; have n3_ := zagaj (below_step (zh2 HB zagas zagav) hb); clear zagal; clear zagaq; clear HB; have HO130 := n0_; have zagal := n1_; have zagaq := n2_; have HB := n3_; clear n0_ n1_ n2_ n3_; (try clear hb); (try clear hk); (try clear hi); (try clear ho0); obtain ⟨Ao8, co8, eo8⟩ := Kd.R_slice HO130.out; subst eo8; have zagbr : w7.cell? ⟨zagan, 0, none⟩ = some (.int .i64 a0_0) := (zagah zagal.out 0).trans rfl; have zagbs : w7.cell? ⟨zagan, 1, none⟩ = some (.bool a0_1) := (zagah zagal.out 1).trans rfl; have zagbt : w7.cell? ⟨zagan, 2, none⟩ = some (.int .i64 a0_2) := (zagah zagal.out 2).trans rfl; have zagbu : w7.cell? ⟨zagan, 3, none⟩ = some (.string a0_3) := (zagah zagal.out 3).trans rfl; have zagbv : w7.cell? ⟨zagan, 4, none⟩ = some (.slice A0_4 l0_4.length c0_4) := (zagah zagal.out 4).trans rfl; have zagbw := zagai zagal.out 0; have zagbx := zagai zagal.out 1; have zagby := zagai zagal.out 2; have zagbz := zagai zagal.out 3; have zagca := zagai zagal.out 4; have zagax : w7.cell? ⟨zagap, 0, none⟩ = some (.int .i64 0) := (zagah zagaq.out 0).trans rfl; have zagay : w7.cell? ⟨zagap, 1, none⟩ = some (.bool false) := (zagah zagaq.out 1).trans rfl; have zagaz : w7.cell? ⟨zagap, 2, none⟩ = some (.int .i64 0) := (zagah zagaq.out 2).trans rfl; have zagba : w7.cell? ⟨zagap, 3, none⟩ = some (.string (⟨#[]⟩ : ByteArray)) := (zagah zagaq.out 3).trans rfl; have zagbb : w7.cell? ⟨zagap, 4, none⟩ = some (.slice none 0 0) := (zagah zagaq.out 4).trans rfl; have zagbc := zagai zagaq.out 0; have zagbd := zagai zagaq.out 1; have zagbe := zagai zagaq.out 2; have zagbf := zagai zagaq.out 3; have zagbg := zagai zagaq.out 4))
 refine bodyPost_ret (results_cell_row rfl _ _ zagap 24 #[.int .i64 a0_0, .bool a0_1, .int .i64 a0_2, .string a0_3, .slice Ao8 t128.length co8] (0, 0) _ rfl (by (with_reducible repeat (first | refine zagaa ?_ _ | refine zagac ?_ | refine zagab ?_ _)); refine blk_put (cs := #[.int .i64 a0_0, .bool a0_1, .int .i64 a0_2, .string a0_3, .slice none 0 0]) ?_ 4 _ rfl; (with_reducible repeat (first | refine zagaa ?_ _ | refine zagac ?_ | refine zagab ?_ _)); refine blk_put (cs := #[.int .i64 a0_0, .bool a0_1, .int .i64 a0_2, .string (⟨#[]⟩ : ByteArray), .slice none 0 0]) ?_ 3 _ rfl; (with_reducible repeat (first | refine zagaa ?_ _ | refine zagac ?_ | refine zagab ?_ _)); refine blk_put (cs := #[.int .i64 a0_0, .bool a0_1, .int .i64 0, .string (⟨#[]⟩ : ByteArray), .slice none 0 0]) ?_ 2 _ rfl; (with_reducible repeat (first | refine zagaa ?_ _ | refine zagac ?_ | refine zagab ?_ _)); refine blk_put (cs := #[.int .i64 a0_0, .bool false, .int .i64 0, .string (⟨#[]⟩ : ByteArray), .slice none 0 0]) ?_ 1 _ rfl; (with_reducible repeat (first | refine zagaa ?_ _ | refine zagac ?_ | refine zagab ?_ _)); refine blk_put (cs := #[.int .i64 0, .bool false, .int .i64 0, .string (⟨#[]⟩ : ByteArray), .slice none 0 0]) ?_ 0 _ rfl; (with_reducible repeat (first | refine zagaa ?_ _ | refine zagac ?_ | refine zagab ?_ _)); refine blk_far ?_ zagau.out _; exact zbk zagaq) Try.underlying24 rfl (by kernel_rfl)) rfl ?_
 exact ⟨_, by first | rfl | (simp [errW_none, errW_some] <;> rfl) | (simp [*, errW_none, errW_some] <;> rfl), by (with_reducible repeat (first | apply Kd.R_alloc | apply Kd.R_drewN | apply Kd.R_drew)); exact Kd.R_mono (Kd.R_far (p := ⟨zagap, 4, none⟩) (Kd.R_far (p := ⟨zagap, 3, none⟩) (Kd.R_far (p := ⟨zagap, 2, none⟩) (Kd.R_far (p := ⟨zagap, 1, none⟩) (Kd.R_far (p := ⟨zagap, 0, none⟩) (Kd.R_far (p := ⟨zagan, 4, none⟩) (Kd.R_types (Kd.R_types HO130.out zagal.out (by decide)) zagaq.out (by decide)) (fun _ hk => hk.1.2) (.slice Ao8 t128.length co8)) (fun _ hk => hk.2) (.int .i64 a0_0)) (fun _ hk => hk.2) (.bool a0_1)) (fun _ hk => hk.2) (.int .i64 a0_2)) (fun _ hk => hk.2) (.string a0_3)) (fun _ hk => hk.2) (.slice Ao8 t128.length co8)) (fun _ hk => trivial), zh2 HB zagas zagav⟩

/-! ### chain_copied: function 39 -/
def chain_copied.l0 : Nat → List (S24) → List (S24) → Int → Int → Option ((List (S24)))
 | 0, _, _, _, _ => none
 | k + 1, x3, x6, x7, x8 => if x8 < x7 then (if 0 ≤ x8 then (if x8 < (x6.length : Int) then ((chain_own.f ((rd_T24 x6 x8).f0) ((rd_T24 x6 x8).f1) ((rd_T24 x6 x8).f2) ((rd_T24 x6 x8).f3) ((rd_T24 x6 x8).f4)).bind fun bt133 => (if x3.length < 2199023255552 then (chain_copied.l0 k (x3 ++ [(⟨bt133.1, bt133.2.1, bt133.2.2.1, bt133.2.2.2.1, bt133.2.2.2.2⟩ : S24)]) x6 x7 (wrap64 (x8 + 1))) else (none))) else (none)) else (none)) else (some x3)
def chain_copied.f (k : Nat) (l0 : List (S24)) : Option ((List (S24))) := chain_copied.l0 k ([] : List (S24)) l0 (l0.length : Int) 0
theorem chain_copied.mono_l : ∀ k, (∀ y0 y1 y2 y3, LeO (chain_copied.l0 k y0 y1 y2 y3) (chain_copied.l0 (k + 1) y0 y1 y2 y3))
 | 0 => fun _ _ _ _ r h => by simp [chain_copied.l0] at h
 | k + 1 => by
  have ih0 := chain_copied.mono_l k
  ·intro y0 y1 y2 y3
   unfold chain_copied.l0
   repeat' first
   | (with_reducible exact ih0 _ _ _ _)
   | (with_reducible exact LeO.refl _)
   | (with_reducible exact LeO.none _)
   | (with_reducible refine LeO.ite ?_ ?_)
   | (with_reducible refine LeO.bind ?_ (fun _ => ?_))
   | exact ih0 _ _ _ _
   | exact LeO.none _
   | refine LeO.ite ?_ ?_
   | refine LeO.bind ?_ (fun _ => ?_)
theorem chain_copied.mono : ∀ a0 k, LeO (chain_copied.f k a0) (chain_copied.f (k + 1) a0) := by
 intro a0 k
 have ih0 := chain_copied.mono_l k
 unfold chain_copied.f
 repeat' first
   | (with_reducible exact ih0 _ _ _ _)
   | (with_reducible exact LeO.refl _)
   | (with_reducible exact LeO.none _)
   | (with_reducible refine LeO.ite ?_ ?_)
   | (with_reducible refine LeO.bind ?_ (fun _ => ?_))
   | exact ih0 _ _ _ _
   | exact LeO.none _
   | refine LeO.ite ?_ ?_
   | refine LeO.bind ?_ (fun _ => ?_)
set_option maxHeartbeats 8000000 in
set_option maxRecDepth 100000 in
theorem chain_copied.calls (k : Nat) (A0 : Option Addr) (c0 : Nat) (l0 : List (S24)) (r : List (S24)) (w : World) (hr0 : Kd.C k24 w A0 l0.length l0) (hc0 : l0.length ≤ c0) (h : chain_copied.f k l0 = some r) :
  Calls Try.prog 39 #[.slice A0 l0.length c0] w fun e w' => ∃ v0_ : Value, e = .returned (v0_) ∧ Kd.S k24 24 w' w.heap.size (fun _ => True) v0_ r ∧ Below w.heap.size w w' := by
 have hu24 := Try.underlying24
 have HR0 := zagaj hr0
 have HC0 := zagaj hc0
 clear hr0 hc0
 have HB := zagaj (Below.refl w.heap.size w)
 have H : (chain_copied.l0 k ([] : List (S24)) l0 (l0.length : Int) 0) = some r := h
 clear h
 have H' := zagaj H
 clear H
 go_enter Try.func39, Try.ntmps39
 go_wp2
 go_loopg [3, 8] k (fun kq v3 v8 w' => ∃ (zagar : List (S24)) (zagak : Int), v8 = .int .i64 zagak ∧ Aside0 (chain_copied.l0 kq zagar l0 (l0.length : Int) zagak = some r) ∧ Aside0 (kq ≤ k) ∧ Aside0 (Kd.S k24 24 w' w.heap.size (fun _ => True) v3 zagar) ∧ Aside0 (Below w.heap.size w w'))
 case atStart => exact ⟨(([] : List (S24))), (0), (by first | rfl | (simp; done) | (simp [*]; done)), H', ⟨Nat.le_refl _⟩, ⟨by first | exact Kd.S_nil _ _ _ _ _ | exact Kd.N_nil _ _ _ _ _ | exact Kd.V_nil _ _ _ _ _ | exact Kd.Q_nil _ _ _ _ _ | exact Kd.R_nil _ _ _ _ _⟩, ⟨zh0 HB⟩⟩
 case round =>
  clear H'
  obtain ⟨zagar, zagak, rfl, HA, HK1, HO_3, HB⟩ := hrel
  cases gk with
  | zero => exact absurd HA.out (by simp [chain_copied.l0])
  | succ k1 =>
   have H := HA.out
   clear HA
   simp only [chain_copied.l0] at H
   by_cases c2 : zagak < (l0.length : Int)
   ·rw [if_pos c2] at H
    have c2b0 : decide (zagak < (l0.length : Int)) = true := decide_eq_true c2
    clear c2
    by_cases c3 : 0 ≤ zagak
    ·rw [if_pos c3] at H
     have c3b0 : decide (0 ≤ zagak) = true := decide_eq_true c3
     clear c3
     by_cases c4 : zagak < (l0.length : Int)
     ·rw [if_pos c4] at H
      have c4b0 : decide (zagak < (l0.length : Int)) = true := decide_eq_true c4
      clear c4
      replace H := Option.bind_eq_some_iff.mp H
      obtain ⟨⟨t133, t134, t135, t136, t137⟩, A50, H⟩ := H
      replace H : (if zagar.length < 2199023255552 then (chain_copied.l0 k1 (zagar ++ [(⟨t133, t134, t135, t136, t137⟩ : S24)]) l0 (l0.length : Int) (wrap64 (zagak + 1))) else (none)) = some r := H
      have A5 := zagaj A50
      clear A50
      by_cases c6 : zagar.length < 2199023255552
      ·rw [if_pos c6] at H
       have LMc6 := zagaj c6
       clear c6
       obtain ⟨y140, hy140⟩ : ∃ y_ : List (S24), y_ = (zagar ++ [(⟨t133, t134, t135, t136, t137⟩ : S24)]) := ⟨_, rfl⟩
       replace H : (chain_copied.l0 k1 y140 l0 (l0.length : Int) (wrap64 (zagak + 1))) = some r := by first | (rw [hy140]; with_reducible exact H) | (have H2_ := (Option.bind_some _ _).symm.trans H; rw [hy140]; with_reducible exact H2_) | (have H2_ := (Option.bind_some _ _).symm.trans H; with_reducible exact H2_) | with_reducible exact H | (rw [hy140]; exact H) | exact H
       have Ny140 := zagaj hy140
       clear hy140
       have H' := zagaj H
       clear H
       have p131 : 0 ≤ (zagak : Int) := of_decide_eq_true (by first | (with_reducible assumption) | assumption)
       have q131 : zagak < (l0.length : Int) := of_decide_eq_true (by first | (with_reducible assumption) | assumption)
       obtain ⟨ad131, A131_4, c131_4, e131, hx131_0, hx131_1, hx131_2, hx131_3, hx131_4, hl131_4, hi131_4⟩ := at_T24 HR0.out zagak p131 q131
       cases e131
       replace hx131_0 := (HB.out.cell (World.block_lt_of_cell? w _ hx131_0)).trans hx131_0
       replace hx131_1 := (HB.out.cell (World.block_lt_of_cell? w _ hx131_1)).trans hx131_1
       replace hx131_2 := (HB.out.cell (World.block_lt_of_cell? w _ hx131_2)).trans hx131_2
       replace hx131_3 := (HB.out.cell (World.block_lt_of_cell? w _ hx131_3)).trans hx131_3
       replace hx131_4 := (HB.out.cell (World.block_lt_of_cell? w _ hx131_4)).trans hx131_4
       have HR131_4 := zagaj hi131_4
       have HC131_4 := zagaj hl131_4
       clear hi131_4 hl131_4
       replace p131 := eq_true p131
       replace q131 := eq_true q131
       go_wp2_with (first | ((with_reducible refine gate_dst (N := 5) rfl ?_); refine box_event ?hg (N := 5) ?hd (cs := #[.int .i64 0, .bool false, .int .i64 0, .string (⟨#[]⟩ : ByteArray), .slice none 0 0]) (t := 24) ?hr ?_; (case hd => rfl); (case hg => rfl); (case hr => first | (go_simp; done) | (go_simp; rfl)); intro zagam hg w7 hbox hb; have n0_ := zagaj (Kd.S_below (Kd.S_elderB (zsk HO_3) zagam (Nat.le_of_eq hg.symm)) hb); have n1_ := zagaj (below_step (zh0 HB) hb); have n2_ := zagaj (hbox); have n3_ := zns hg (zh0 HB); have n4_ := zns hg (zh0 HB); clear HO_3; clear HB; have HO_3 := n0_; have HB := n1_; have zagao := n2_; have zagcn := n3_; have zagat := n4_; clear n0_ n1_ n2_ n3_ n4_; clear hb hbox hg; have zagcb : w7.cell? ⟨zagam, 0, none⟩ = some (.int .i64 0) := (zagah zagao.out 0).trans rfl; have zagcc : w7.cell? ⟨zagam, 1, none⟩ = some (.bool false) := (zagah zagao.out 1).trans rfl; have zagcd : w7.cell? ⟨zagam, 2, none⟩ = some (.int .i64 0) := (zagah zagao.out 2).trans rfl; have zagce : w7.cell? ⟨zagam, 3, none⟩ = some (.string (⟨#[]⟩ : ByteArray)) := (zagah zagao.out 3).trans rfl; have zagcf : w7.cell? ⟨zagam, 4, none⟩ = some (.slice none 0 0) := (zagah zagao.out 4).trans rfl; have zagcg := zagai zagao.out 0; have zagch := zagai zagao.out 1; have zagci := zagai zagao.out 2; have zagcj := zagai zagao.out 3; have zagck := zagai zagao.out 4) | ((with_reducible refine gate_callee (f := 38) rfl ?_); refine goesL_ (some 14) rfl rfl Try.func38 (by kernel_rfl) rfl #[.agg #[.int .i64 ((rd_T24 l0 zagak).f0), .bool ((rd_T24 l0 zagak).f1), .int .i64 ((rd_T24 l0 zagak).f2), .string ((rd_T24 l0 zagak).f3), .slice A131_4 ((rd_T24 l0 zagak).f4).length c131_4]] rfl (by (try simp only [List.map_toArray, List.map_cons, List.map_nil]); first | done | rfl) ?_; (with_reducible refine (chain_own.calls ((rd_T24 l0 zagak).f0) ((rd_T24 l0 zagak).f1) ((rd_T24 l0 zagak).f2) ((rd_T24 l0 zagak).f3) _ _ ((rd_T24 l0 zagak).f4) t133 t134 t135 t136 t137 _ ?side1 ?side2 A5.out).mono ?_); (case side1 => exact Kd.C_below HR131_4.out (zh1 HB zagat)); (case side2 => exact HC131_4.out); rintro e w9 ⟨v138, rfl, ho0, hb⟩; refine ⟨_, rfl, ?_⟩; have n0_ := zagaj (Kd.S_elder' (by (with_reducible repeat (first | apply Kd.S_alloc | apply Kd.S_drewN | apply Kd.S_drew)); exact (Kd.S_mono (Kd.S_far (p := ⟨zagam, 4, none⟩) (Kd.S_far (p := ⟨zagam, 3, none⟩) (Kd.S_far (p := ⟨zagam, 2, none⟩) (Kd.S_far (p := ⟨zagam, 1, none⟩) (Kd.S_far (p := ⟨zagam, 0, none⟩) (Kd.S_mono HO_3.out (fun k_ hk => (⟨hk, hk.2⟩ : _ ∧ k_ ≠ zagam))) (fun _ hk => hk.2) (.int .i64 ((rd_T24 l0 zagak).f0))) (fun _ hk => hk.2) (.bool ((rd_T24 l0 zagak).f1))) (fun _ hk => hk.2) (.int .i64 ((rd_T24 l0 zagak).f2))) (fun _ hk => hk.2) (.string ((rd_T24 l0 zagak).f3))) (fun _ hk => hk.2) (.slice A131_4 ((rd_T24 l0 zagak).f4).length c131_4)) (fun _ h_ => h_.1))) (Kd.R_base ho0) hb); have n1_ := zagaj (Kd.R_lower ho0 (below_size (zh1 HB zagat))); have n2_ := zagaj (blk_below (g := zagam) (o := .cells #[.int .i64 ((rd_T24 l0 zagak).f0), .bool ((rd_T24 l0 zagak).f1), .int .i64 ((rd_T24 l0 zagak).f2), .string ((rd_T24 l0 zagak).f3), .slice A131_4 ((rd_T24 l0 zagak).f4).length c131_4] 24 (0, 0)) (by (with_reducible repeat (first | refine zagaa ?_ _ | refine zagac ?_ | refine zagab ?_ _)); refine blk_put (cs := #[.int .i64 ((rd_T24 l0 zagak).f0), .bool ((rd_T24 l0 zagak).f1), .int .i64 ((rd_T24 l0 zagak).f2), .string ((rd_T24 l0 zagak).f3), .slice none 0 0]) ?_ 4 _ rfl; (with_reducible repeat (first | refine zagaa ?_ _ | refine zagac ?_ | refine zagab ?_ _)); refine blk_put (cs := #[.int .i64 ((rd_T24 l0 zagak).f0), .bool ((rd_T24 l0 zagak).f1), .int .i64 ((rd_T24 l0 zagak).f2), .string (⟨#[]⟩ : ByteArray), .slice none 0 0]) ?_ 3 _ rfl; (with_reducible repeat (first | refine zagaa ?_ _ | refine zagac ?_ | refine zagab ?_ _)); refine blk_put (cs := #[.int .i64 ((rd_T24 l0 zagak).f0), .bool ((rd_T24 l0 zagak).f1), .int .i64 0, .string (⟨#[]⟩ : ByteArray), .slice none 0 0]) ?_ 2 _ rfl; (with_reducible repeat (first | refine zagaa ?_ _ | refine zagac ?_ | refine zagab ?_ _)); refine blk_put (cs := #[.int .i64 ((rd_T24 l0 zagak).f0), .bool false, .int .i64 0, .string (⟨#[]⟩ : ByteArray), .slice none 0 0]) ?_ 1 _ rfl; (with_reducible repeat (first | refine zagaa ?_ _ | refine zagac ?_ | refine zagab ?_ _)); refine blk_put (cs := #[.int .i64 0, .bool false, .int .i64 0, .string (⟨#[]⟩ : ByteArray), .slice none 0 0]) ?_ 0 _ rfl; exact zbk zagao) hb); have n3_ := zagaj (below_step (zh1 HB zagat) hb); clear HO_3; clear zagao; clear HB; have HO_3 := n0_; have HO139 := n1_; have zagao := n2_; have HB := n3_; clear n0_ n1_ n2_ n3_; (try clear hb); (try clear hk); (try clear hi); (try clear ho0); obtain ⟨Ao11, co11, eo11⟩ := Kd.R_slice HO139.out; subst eo11) | ((with_reducible refine gate_builtin (b := .append) (xs := #[.tmp 12, .tmp 15]) rfl ?_); at_builtin; refine Kd.S_append k24 (w0 := w) w.heap.size rfl (.tmp 12) (.tmp 15) 39 24 (.agg #[(.int .i64 0), (.bool false), (.int .i64 0), (.string ⟨#[]⟩), (.slice none 0 0)]) 64 rfl Try.underlying39 info24 rfl (by decide) (by omega) u3 zagar (⟨t133, t134, t135, t136, t137⟩ : S24) [.int .i64 t133, .bool t134, .int .i64 t135, .string t136, .slice Ao11 t137.length co11] (fun k_ => k_ ≠ zagam) (fun k_ => some k_ = (.slice Ao11 t137.length co11 : Value).ownBlock) rfl rfl ?aP (fun k_ hk_ => ((Kd.R_mono (ok' := fun k_ => ((fun k_ => k_ ≠ zagam)) k_ ∧ some k_ ≠ (u3 : Value).ownBlock) (Kd.R_types (Kd.R_apart' (HO139.out) (Kd.S_typed HO_3.out) (by decide)) zagao.out (by decide)) (fun k_ hk => ⟨hk.2, hk.1.2⟩))).1 k_ hk_.symm) ?aF ?aO ?aB ?aS ?aL ?_; (case aP => exact k24_mkM _ _ _ (⟨t133, t134, t135, t136, t137⟩ : S24) (Kd.R_mono (Kd.R_tight rfl (Kd.R_mono (ok' := fun k_ => ((fun k_ => k_ ≠ zagam)) k_ ∧ some k_ ≠ (u3 : Value).ownBlock) (Kd.R_types (Kd.R_apart' (HO139.out) (Kd.S_typed HO_3.out) (by decide)) zagao.out (by decide)) (fun k_ hk => ⟨hk.2, hk.1.2⟩))) (fun _ h_ => h_))); (case aB => exact (zh1 HB zagat)); (case aF => exact (fun k_ hk => Kd.freshB (g := zagam) (o := .cells #[.int .i64 ((rd_T24 l0 zagak).f0), .bool ((rd_T24 l0 zagak).f1), .int .i64 ((rd_T24 l0 zagak).f2), .string ((rd_T24 l0 zagak).f3), .slice A131_4 ((rd_T24 l0 zagak).f4).length c131_4] 24 (0, 0)) (zbk zagao) k_ hk)); (case aO => exact (by (with_reducible repeat (first | apply Kd.S_alloc | apply Kd.S_drewN | apply Kd.S_drew)); exact Kd.S_mono HO_3.out (fun k_ hk => ⟨hk.1.2, fun e_ => hk.2 e_⟩))); (case aS => exact (below_size (zh1 HB zagat))); (case aL => have := LMc6.out; omega); intro v141 w10 ho hb hg hat; rw [← Ny140.out] at ho; have n0_ := zagaj (blk_grown (g := zagam) (o := .cells #[.int .i64 ((rd_T24 l0 zagak).f0), .bool ((rd_T24 l0 zagak).f1), .int .i64 ((rd_T24 l0 zagak).f2), .string ((rd_T24 l0 zagak).f3), .slice A131_4 ((rd_T24 l0 zagak).f4).length c131_4] 24 (0, 0)) (zbk zagao) hg (Kd.S_away HO_3.out (fun _ hk => hk.1.2))); have n1_ := zagaj (hb); have n2_ := zagaj (ho); clear zagao; clear HB; clear HO_3; clear HO139; have zagao := n0_; have HB := n1_; have HO142 := n2_; clear n0_ n1_ n2_; clear ho hb hg hat))
       go_roundg k1
       case measure => have := HK1.out; omega
       case rel => exact ⟨(y140), (wrap64 (zagak + 1)), (by first | rfl | (simp; done) | (simp [*]; done)), H', ⟨by have := HK1.out; omega⟩, ⟨by (with_reducible repeat (first | apply Kd.S_alloc | apply Kd.S_drewN | apply Kd.S_drew)); exact Kd.S_mono HO142.out (fun _ hk => trivial)⟩, ⟨zh1 HB zagat⟩⟩
      ·rw [if_neg c6] at H
       exact absurd H (by simp)
     ·rw [if_neg c4] at H
      exact absurd H (by simp)
    ·rw [if_neg c3] at H
     exact absurd H (by simp)
   ·rw [if_neg c2] at H
    have c2b0 : decide (zagak < (l0.length : Int)) = false := decide_eq_false c2
    clear c2
    obtain rfl := Option.some.inj H
    go_wp2
    go_ret
    exact ⟨_, by first | rfl | (simp [errW_none, errW_some] <;> rfl) | (simp [*, errW_none, errW_some] <;> rfl), by (with_reducible repeat (first | apply Kd.S_alloc | apply Kd.S_drewN | apply Kd.S_drew)); exact HO_3.out, zh0 HB⟩

end Go.Proofs.Ytmpnaaegahjfkaa.Q